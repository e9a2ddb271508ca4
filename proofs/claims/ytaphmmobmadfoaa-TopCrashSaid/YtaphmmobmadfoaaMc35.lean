/- Put together: St9. -/
import Derived.Test.YtaphmmobmadfoaaMc31
/- Commit: the walk. -/
namespace Go.Proofs.Ytaphmmobmadfoaa
open Go Go.RowKit
theorem com_pre {h : Hd} {l : LogR} {rows c : List Ch} {d : Dk} (h1 : ¬ 40 < c.length) (h2 : chkA c = 0) : comF h l rows c d = if manyB (applyL rows c) = true ∨ d.now.length - 44 < c.length + 1 then (((h, l, rows), d), 10)
  else if l.many - l.next < c.length + 1 then
    (if (ckF h l rows d).2 = 0 then addS (ckF h l rows d).1.1.1 (ckF h l rows d).1.1.2 rows c (ckF h l rows d).1.2 else (((h, l, rows), (ckF h l rows d).1.2), (ckF h l rows d).2))
  else addS h l rows c d := by
  unfold comF
  rw [if_neg h1, h2, if_neg (by simp)]
theorem addF_g (l : LogR) (c : List Ch) (d : Dk) : (addF l c d).1.1.g = l.g := by
  unfold addF
  repeat' split
  all_goals rfl
theorem addS_eq {h : Hd} {l l3 : LogR} {rows c : List Ch} {d d3 : Dk} {f : Int} (e : addF l c d = ((l3, d3), f)) : addS h l.z rows c d = if f = 0 then (((h, l3.z, applyL rows c), d3), 0) else (((h, l3.z, rows), d3), f) := by
  unfold addS
  rw [addF_z, e]
/-- The blocks of a store and what is made from here on. -/
def Gst (Z : StS) (r : DkR) (u : World) : Nat → Prop := fun b => Z.fp r b ∨ u.heap.size ≤ b
set_option maxRecDepth 100000 in
set_option maxHeartbeats 8000000 in
theorem Commit_c {w : World} (hm : Ml w) {Z : StS} {r : DkR} {d : Dk} (h : ComOk w Z r d) {A : Option Addr} {n cap : Nat} {c : List Ch} (hc : ∀ v, Only (Z.fp r) w v → SlR chF v A n c) (hn : n ≤ 1000000) (hcb : ∀ x ∈ c, x.1.length ≤ 1000 ∧ x.2.1.length ≤ 1000) :
    Calls Try.prog 12 #[pt Z.g, .slice A n cap] w (CoRes w Z r d c) := by
  have HO := Lib.hid h
  have HM := Lib.hid hm
  have HC := Lib.hid hc
  have HCB := Lib.hid hcb
  have hcn : c.length = n := (hc w (Only.refl _ _)).1
  have HCn := Lib.hid hcn
  clear h hm hc hcb hcn
  by_cases h40 : 40 < n
  · have g1 : decide ((40 : Int) < (n : Int)) = true := decide_eq_true (by omega)
    have g1' : decide (40 < n) = true := decide_eq_true h40
    have hE := as_E 2
    go_enter Try.func12, Try.ntmps12
    go_wp2_with (first | ((first | refine Mix.wpList_guarded rfl ?_ | refine Mix.wp_still (by kernel_rfl) (by kernel_rfl) ?_); (repeat' (first | (refine Mix.lex_quiet0 rfl rfl rfl ?_; intro K hK; go_big_quiet_op; go_big_quiet_on) | (refine Mix.lex_quietG rfl rfl rfl (by with_reducible rfl) rfl rfl ?_; intro K hK; go_big_quiet_op; go_big_quiet_on) | ((first | refine Mix.lex_skipT rfl rfl rfl (by with_reducible rfl) ?_ | refine Mix.lex_skipF rfl rfl rfl (by with_reducible rfl) ?_ | refine Mix.lex_skipU rfl rfl rfl (by with_reducible rfl) ?_); simp only [Act.put, List.setIfInBounds_toArray, List.set_cons_succ, List.set_cons_zero]) | (refine Mix.lex_part rfl rfl rfl rfl (fun hq => ?_) (fun hq => ?_) <;> (fail_if_success (guard_hyp hq :ₛ true = true)) <;> (fail_if_success (guard_hyp hq :ₛ false = false)) <;> first | (exfalso; cases hq; done) | (exfalso; simp only [decide_eq_true_eq, decide_eq_false_iff_not, beq_iff_eq, beq_eq_false_iff_ne, ne_eq, Int.not_lt, Int.not_le] at hq; omega) | simp only [Act.put, List.setIfInBounds_toArray, List.set_cons_succ, List.set_cons_zero]))); all_goals (refine Mix.lex_nil ?_)))
    go_ret
    refine ⟨Z.h, Z.l.z, Z.rows, d, 2, ?_, ?_, Z, r, StOn.start HO.out.st HO.out.dk, rfl, rfl, rfl⟩
    · unfold comF
      rw [if_pos (by rw [HCn.out]; exact h40)]
    · rw [errV_pos (by decide)]; rfl
  have g1 : decide ((40 : Int) < (n : Int)) = false := decide_eq_false (by omega)
  have g1' : decide (40 < n) = false := decide_eq_false h40
  go_enter Try.func12, Try.ntmps12
  go_wp2_with (first | ((first | refine Mix.wpList_guarded rfl ?_ | refine Mix.wp_still (by kernel_rfl) (by kernel_rfl) ?_); (repeat' (first | (refine Mix.lex_quiet0 rfl rfl rfl ?_; intro K hK; go_big_quiet_op; go_big_quiet_on) | (refine Mix.lex_quietG rfl rfl rfl (by with_reducible rfl) rfl rfl ?_; intro K hK; go_big_quiet_op; go_big_quiet_on) | ((first | refine Mix.lex_skipT rfl rfl rfl (by with_reducible rfl) ?_ | refine Mix.lex_skipF rfl rfl rfl (by with_reducible rfl) ?_ | refine Mix.lex_skipU rfl rfl rfl (by with_reducible rfl) ?_); simp only [Act.put, List.setIfInBounds_toArray, List.set_cons_succ, List.set_cons_zero]) | (refine Mix.lex_part rfl rfl rfl rfl (fun hq => ?_) (fun hq => ?_) <;> (fail_if_success (guard_hyp hq :ₛ true = true)) <;> (fail_if_success (guard_hyp hq :ₛ false = false)) <;> first | (exfalso; cases hq; done) | (exfalso; simp only [decide_eq_true_eq, decide_eq_false_iff_not, beq_iff_eq, beq_eq_false_iff_ne, ne_eq, Int.not_lt, Int.not_le] at hq; omega) | simp only [Act.put, List.setIfInBounds_toArray, List.set_cons_succ, List.set_cons_zero]))); all_goals (refine Mix.lex_nil ?_)))
  go_loopw [17] (fun i wr => ∃ j : Nat, j ≤ n ∧ i = .int .i64 j ∧ (∀ x ∈ c.take j, chBad x = 0) ∧ Ext w wr) (fun i _ => n - (intOf i).toNat)
  case atStart => exact ⟨0, Nat.zero_le _, rfl, fun x hx => by simp at hx, Only.refl _ _⟩
  case round =>
    obtain ⟨j, hj, rfl, hok, hx⟩ := hrel
    have XJ := Lib.hid hx
    have HOk := Lib.hid hok
    clear hx hok
    by_cases hlt : j < n
    · have glt : decide ((j : Int) < (n : Int)) = true := decide_eq_true (by omega)
      have glt' : decide (j < n) = true := decide_eq_true hlt
      obtain ⟨b, o, x, hAe, hyx, q0, q1, q2⟩ := chs_get (HC.out w (Only.refl _ _)) hlt
      subst hAe
      have hxb := HCB.out _ (List.mem_of_getElem? hyx)
      have HDr : Hid (chkA c = if chBad x = 0 then chkA (c.drop (j + 1)) else chBad x) := by
        rw [Hid, chkA_drop c j HOk.out, drop_at hyx]; rfl
      have HTk : Hid (chBad x = 0 → ∀ y ∈ c.take (j + 1), chBad y = 0) := fun h0 y hy => by
        rw [List.take_add_one, hyx] at hy
        rcases List.mem_append.1 hy with hy | hy
        · exact HOk.out y hy
        · rw [show y = x by simpa using hy]; exact h0
      obtain ⟨key, val, gone⟩ := x
      dsimp only at hxb
      have r0 := q0 ⟨wr, XJ.out⟩
      have r1 := q1 ⟨wr, XJ.out⟩
      have r2 := q2 ⟨wr, XJ.out⟩
      dsimp only at r0 r1 r2
      clear q0 q1 q2
      obtain ⟨g2, hg2⟩ : ∃ x, x = wr.heap.size := ⟨_, rfl⟩
      obtain ⟨w2, hw2⟩ : ∃ v, v = wr.alloc (.cells #[S key, S val, .bool gone] 61) := ⟨_, rfl⟩
      have X2 : Hid (Ext w w2) := by rw [hw2]; exact XJ.out.alloc _
      have hC2 : Cs w2 g2 61 #[S key, S val, .bool gone] := by rw [hw2, hg2]; exact Cs.new _ _ _
      have s0 : w2.cell? ⟨g2, 0, none⟩ = some (S key) := hC2.cell 0
      have s1 : w2.cell? ⟨g2, 1, none⟩ = some (S val) := hC2.cell 1
      have s2 : w2.cell? ⟨g2, 2, none⟩ = some (.bool gone) := hC2.cell 2
      have HK := Lib.hid (Check_row (key, val, gone) (by show key.length ≤ 10000; omega) (by show val.length ≤ 1000000; omega) (HM.out.ext X2.out))
      have hnn := chBad_nonneg (key, val, gone)
      obtain ⟨bad, hbad⟩ : ∃ x, x = chBad (key, val, gone) := ⟨_, rfl⟩
      rw [← hbad] at HK HDr HTk hnn
      go_upto_region 6 with fail
      rw [← hw2, ← hg2]
      clear hw2 hg2 hbad
      go_wp2_with (first | ((first | refine Mix.wpList_guarded rfl ?_ | refine Mix.wp_still (by kernel_rfl) (by kernel_rfl) ?_); (repeat' (first | (refine Mix.lex_quiet0 rfl rfl rfl ?_; intro K hK; go_big_quiet_op; go_big_quiet_on) | (refine Mix.lex_quietG rfl rfl rfl (by with_reducible rfl) rfl rfl ?_; intro K hK; go_big_quiet_op; go_big_quiet_on) | ((first | refine Mix.lex_skipT rfl rfl rfl (by with_reducible rfl) ?_ | refine Mix.lex_skipF rfl rfl rfl (by with_reducible rfl) ?_ | refine Mix.lex_skipU rfl rfl rfl (by with_reducible rfl) ?_); simp only [Act.put, List.setIfInBounds_toArray, List.set_cons_succ, List.set_cons_zero]) | (refine Mix.lex_part rfl rfl rfl rfl (fun hq => ?_) (fun hq => ?_) <;> (fail_if_success (guard_hyp hq :ₛ true = true)) <;> (fail_if_success (guard_hyp hq :ₛ false = false)) <;> first | (exfalso; cases hq; done) | (exfalso; simp only [decide_eq_true_eq, decide_eq_false_iff_not, beq_iff_eq, beq_eq_false_iff_ne, ne_eq, Int.not_lt, Int.not_le] at hq; omega) | simp only [Act.put, List.setIfInBounds_toArray, List.set_cons_succ, List.set_cons_zero]))); all_goals (refine Mix.lex_nil ?_)))
      refine HK.out.mono ?_
      rintro e w3 ⟨rfl, hu⟩
      have X3 := Lib.hid (X2.out.then_ext hu)
      clear hu HK s0 s1 s2 hC2
      by_cases hb0 : bad = 0
      · have HT2 := Lib.hid (HTk.out hb0)
        subst hb0
        rw [errV_zero]
        clear HDr HTk
        go_wp2_with (first | ((first | refine Mix.wpList_guarded rfl ?_ | refine Mix.wp_still (by kernel_rfl) (by kernel_rfl) ?_); (repeat' (first | (refine Mix.lex_quiet0 rfl rfl rfl ?_; intro K hK; go_big_quiet_op; go_big_quiet_on) | (refine Mix.lex_quietG rfl rfl rfl (by with_reducible rfl) rfl rfl ?_; intro K hK; go_big_quiet_op; go_big_quiet_on) | ((first | refine Mix.lex_skipT rfl rfl rfl (by with_reducible rfl) ?_ | refine Mix.lex_skipF rfl rfl rfl (by with_reducible rfl) ?_ | refine Mix.lex_skipU rfl rfl rfl (by with_reducible rfl) ?_); simp only [Act.put, List.setIfInBounds_toArray, List.set_cons_succ, List.set_cons_zero]) | (refine Mix.lex_part rfl rfl rfl rfl (fun hq => ?_) (fun hq => ?_) <;> (fail_if_success (guard_hyp hq :ₛ true = true)) <;> (fail_if_success (guard_hyp hq :ₛ false = false)) <;> first | (exfalso; cases hq; done) | (exfalso; simp only [decide_eq_true_eq, decide_eq_false_iff_not, beq_iff_eq, beq_eq_false_iff_ne, ne_eq, Int.not_lt, Int.not_le] at hq; omega) | simp only [Act.put, List.setIfInBounds_toArray, List.set_cons_succ, List.set_cons_zero]))); all_goals (refine Mix.lex_nil ?_)))
        go_roundw
        case rel => exact ⟨j + 1, by omega, by go_num, HT2.out, X3.out⟩
        case measure => simp [intOf]; omega
      · rw [errV_pos hb0]
        have HA : Hid (chkA c = bad) := HDr.out.trans (if_neg hb0)
        clear HDr HTk
        go_wp2_with (first | ((first | refine Mix.wpList_guarded rfl ?_ | refine Mix.wp_still (by kernel_rfl) (by kernel_rfl) ?_); (repeat' (first | (refine Mix.lex_quiet0 rfl rfl rfl ?_; intro K hK; go_big_quiet_op; go_big_quiet_on) | (refine Mix.lex_quietG rfl rfl rfl (by with_reducible rfl) rfl rfl ?_; intro K hK; go_big_quiet_op; go_big_quiet_on) | ((first | refine Mix.lex_skipT rfl rfl rfl (by with_reducible rfl) ?_ | refine Mix.lex_skipF rfl rfl rfl (by with_reducible rfl) ?_ | refine Mix.lex_skipU rfl rfl rfl (by with_reducible rfl) ?_); simp only [Act.put, List.setIfInBounds_toArray, List.set_cons_succ, List.set_cons_zero]) | (refine Mix.lex_part rfl rfl rfl rfl (fun hq => ?_) (fun hq => ?_) <;> (fail_if_success (guard_hyp hq :ₛ true = true)) <;> (fail_if_success (guard_hyp hq :ₛ false = false)) <;> first | (exfalso; cases hq; done) | (exfalso; simp only [decide_eq_true_eq, decide_eq_false_iff_not, beq_iff_eq, beq_eq_false_iff_ne, ne_eq, Int.not_lt, Int.not_le] at hq; omega) | simp only [Act.put, List.setIfInBounds_toArray, List.set_cons_succ, List.set_cons_zero]))); all_goals (refine Mix.lex_nil ?_)))
        go_ret
        refine ⟨Z.h, Z.l.z, Z.rows, d, bad, ?_, ?_, Z, r, (StOn.start HO.out.st HO.out.dk).ext X3.out, rfl, rfl, rfl⟩
        · unfold comF
          rw [if_neg (by rw [HCn.out]; exact h40), HA.out, if_pos hb0]
        · rw [errV_pos hb0]; rfl
    · obtain rfl : j = n := by omega
      have glt : decide ((j : Int) < (j : Int)) = false := decide_eq_false (by omega)
      have HAll : Hid (∀ x ∈ c, chBad x = 0) := by
        have := HOk.out
        rw [List.take_of_length_le (by rw [HCn.out]; exact Nat.le_refl _)] at this
        exact this
      have HCk : Hid (chkA c = 0) := by
        have := chkA_drop c c.length (by rw [List.take_length]; exact HAll.out)
        rw [Hid, this, List.drop_length]; rfl
      have HCo := Lib.hid (com_pre (h := Z.h) (l := Z.l.z) (rows := Z.rows) (d := d) (by rw [HCn.out]; exact h40) HCk.out)
      rw [HCn.out] at HCo
      have s6 : wr.cell? ⟨Z.g, 6, none⟩ = some (.slice Z.A Z.rows.length Z.c) := (HO.out.st.ext XJ.out).cs.cell 6
      have hA := Apply_c (w := wr) (c := Z.c) (d := cap) (HO.out.st.ext XJ.out).sl (HC.out wr (Only.any XJ.out)) (by have := HO.out.rn; omega) (by omega) HO.out.good.rise
      clear HOk
      go_wp2_with (first | ((first | refine Mix.wpList_guarded rfl ?_ | refine Mix.wp_still (by kernel_rfl) (by kernel_rfl) ?_); (repeat' (first | (refine Mix.lex_quiet0 rfl rfl rfl ?_; intro K hK; go_big_quiet_op; go_big_quiet_on) | (refine Mix.lex_quietG rfl rfl rfl (by with_reducible rfl) rfl rfl ?_; intro K hK; go_big_quiet_op; go_big_quiet_on) | ((first | refine Mix.lex_skipT rfl rfl rfl (by with_reducible rfl) ?_ | refine Mix.lex_skipF rfl rfl rfl (by with_reducible rfl) ?_ | refine Mix.lex_skipU rfl rfl rfl (by with_reducible rfl) ?_); simp only [Act.put, List.setIfInBounds_toArray, List.set_cons_succ, List.set_cons_zero]) | (refine Mix.lex_part rfl rfl rfl rfl (fun hq => ?_) (fun hq => ?_) <;> (fail_if_success (guard_hyp hq :ₛ true = true)) <;> (fail_if_success (guard_hyp hq :ₛ false = false)) <;> first | (exfalso; cases hq; done) | (exfalso; simp only [decide_eq_true_eq, decide_eq_false_iff_not, beq_iff_eq, beq_eq_false_iff_ne, ne_eq, Int.not_lt, Int.not_le] at hq; omega) | simp only [Act.put, List.setIfInBounds_toArray, List.set_cons_succ, List.set_cons_zero]))); all_goals (refine Mix.lex_nil ?_)))
      refine hA.mono ?_
      rintro e w1 ⟨rA, rc, rfl, hF⟩
      have FR := Lib.hid hF
      have X1 := Lib.hid (XJ.out.then_ext hF.ext)
      have HGd := Lib.hid (HO.out.good.apply HAll.out)
      have hrl : (applyL Z.rows c).length ≤ 1040 := by have := applyL_len Z.rows c; have := HO.out.rn; have := HCn.out; omega
      obtain ⟨rows', hrows⟩ : ∃ x, x = applyL Z.rows c := ⟨_, rfl⟩
      have HRows := Lib.hid hrows
      rw [← hrows] at FR HGd HCo hrl ⊢
      clear hrows hF hA XJ s6
      have hMn := Many_c (w := w1) (A := rA) (n := rows'.length) (c := rc) (rows := rows') (SlR.of_own (T := chF) (by decide) FR.out.own) (by omega) (fun x hx => good_key (HGd.out.ok x hx))
      obtain ⟨mb, hmb⟩ : ∃ x, x = manyB rows' := ⟨_, rfl⟩
      rw [← hmb] at hMn HCo
      clear hmb
      go_wp2_with (first | ((first | refine Mix.wpList_guarded rfl ?_ | refine Mix.wp_still (by kernel_rfl) (by kernel_rfl) ?_); (repeat' (first | (refine Mix.lex_quiet0 rfl rfl rfl ?_; intro K hK; go_big_quiet_op; go_big_quiet_on) | (refine Mix.lex_quietG rfl rfl rfl (by with_reducible rfl) rfl rfl ?_; intro K hK; go_big_quiet_op; go_big_quiet_on) | ((first | refine Mix.lex_skipT rfl rfl rfl (by with_reducible rfl) ?_ | refine Mix.lex_skipF rfl rfl rfl (by with_reducible rfl) ?_ | refine Mix.lex_skipU rfl rfl rfl (by with_reducible rfl) ?_); simp only [Act.put, List.setIfInBounds_toArray, List.set_cons_succ, List.set_cons_zero]) | (refine Mix.lex_part rfl rfl rfl rfl (fun hq => ?_) (fun hq => ?_) <;> (fail_if_success (guard_hyp hq :ₛ true = true)) <;> (fail_if_success (guard_hyp hq :ₛ false = false)) <;> first | (exfalso; cases hq; done) | (exfalso; simp only [decide_eq_true_eq, decide_eq_false_iff_not, beq_iff_eq, beq_eq_false_iff_ne, ne_eq, Int.not_lt, Int.not_le] at hq; omega) | simp only [Act.put, List.setIfInBounds_toArray, List.set_cons_succ, List.set_cons_zero]))); all_goals (refine Mix.lex_nil ?_)))
      refine hMn.mono ?_
      rintro e w2 ⟨rfl, hu⟩
      have X2 := Lib.hid (X1.out.then_ext hu)
      have F2 := Lib.hid (FR.out.on hu)
      clear hu hMn X1 FR
      have hE := as_E 10
      cases mb
      · have HSc := Sectors_c (HO.out.dk.ext X2.out)
        have q0 : w2.cell? ⟨Z.g, 0, none⟩ = some (pt r.g) := (HO.out.st.ext X2.out).cs.cell 0
        go_wp2_with (first | ((first | refine Mix.wpList_guarded rfl ?_ | refine Mix.wp_still (by kernel_rfl) (by kernel_rfl) ?_); (repeat' (first | (refine Mix.lex_quiet0 rfl rfl rfl ?_; intro K hK; go_big_quiet_op; go_big_quiet_on) | (refine Mix.lex_quietG rfl rfl rfl (by with_reducible rfl) rfl rfl ?_; intro K hK; go_big_quiet_op; go_big_quiet_on) | ((first | refine Mix.lex_skipT rfl rfl rfl (by with_reducible rfl) ?_ | refine Mix.lex_skipF rfl rfl rfl (by with_reducible rfl) ?_ | refine Mix.lex_skipU rfl rfl rfl (by with_reducible rfl) ?_); simp only [Act.put, List.setIfInBounds_toArray, List.set_cons_succ, List.set_cons_zero]) | (refine Mix.lex_part rfl rfl rfl rfl (fun hq => ?_) (fun hq => ?_) <;> (fail_if_success (guard_hyp hq :ₛ true = true)) <;> (fail_if_success (guard_hyp hq :ₛ false = false)) <;> first | (exfalso; cases hq; done) | (exfalso; simp only [decide_eq_true_eq, decide_eq_false_iff_not, beq_iff_eq, beq_eq_false_iff_ne, ne_eq, Int.not_lt, Int.not_le] at hq; omega) | simp only [Act.put, List.setIfInBounds_toArray, List.set_cons_succ, List.set_cons_zero]))); all_goals (refine Mix.lex_nil ?_)))
        refine HSc.mono ?_
        rintro e w3 ⟨rfl, hu⟩
        have X3 := Lib.hid (X2.out.then_ext hu)
        have F3' := Lib.hid (F2.out.on hu)
        clear hu HSc X2 F2 q0
        have hn2 := HO.out.n2
        have hn1 := HO.out.n1
        have HN : Hid (∃ N, N = d.now.length) := ⟨_, rfl⟩
        by_cases hfull : d.now.length - 44 < j + 1
        · have k1 : decide ((d.now.length : Int) - 44 < (j : Int) + 1) = true := decide_eq_true (by omega)
          have HCo2 := Lib.hid (HCo.out.trans (if_pos (.inr hfull)))
          go_wp2_with (first | ((first | refine Mix.wpList_guarded rfl ?_ | refine Mix.wp_still (by kernel_rfl) (by kernel_rfl) ?_); (repeat' (first | (refine Mix.lex_quiet0 rfl rfl rfl ?_; intro K hK; go_big_quiet_op; go_big_quiet_on) | (refine Mix.lex_quietG rfl rfl rfl (by with_reducible rfl) rfl rfl ?_; intro K hK; go_big_quiet_op; go_big_quiet_on) | ((first | refine Mix.lex_skipT rfl rfl rfl (by with_reducible rfl) ?_ | refine Mix.lex_skipF rfl rfl rfl (by with_reducible rfl) ?_ | refine Mix.lex_skipU rfl rfl rfl (by with_reducible rfl) ?_); simp only [Act.put, List.setIfInBounds_toArray, List.set_cons_succ, List.set_cons_zero]) | (refine Mix.lex_part rfl rfl rfl rfl (fun hq => ?_) (fun hq => ?_) <;> (fail_if_success (guard_hyp hq :ₛ true = true)) <;> (fail_if_success (guard_hyp hq :ₛ false = false)) <;> first | (exfalso; cases hq; done) | (exfalso; simp only [decide_eq_true_eq, decide_eq_false_iff_not, beq_iff_eq, beq_eq_false_iff_ne, ne_eq, Int.not_lt, Int.not_le] at hq; omega) | simp only [Act.put, List.setIfInBounds_toArray, List.set_cons_succ, List.set_cons_zero]))); all_goals (refine Mix.lex_nil ?_)))
          go_ret
          exact ⟨Z.h, Z.l.z, Z.rows, d, 10, HCo2.out, by rw [errV_pos (by decide)]; rfl, Z, r, (StOn.start HO.out.st HO.out.dk).ext X3.out, rfl, rfl, rfl⟩
        · have k1 : decide ((d.now.length : Int) - 44 < (j : Int) + 1) = false := decide_eq_false (by omega)
          have HCo2 := Lib.hid (HCo.out.trans (if_neg (by rintro (e | e); cases e; exact hfull e)))
          have q5 : w3.cell? ⟨Z.g, 5, none⟩ = some (pt Z.l.g) := (HO.out.st.ext X3.out).cs.cell 5
          have hRm := Room_c (HO.out.st.ext X3.out).lg (by have := HO.out.l1; omega) HO.out.l1.2.2.2
          clear HCo
          go_wp2_with (first | ((first | refine Mix.wpList_guarded rfl ?_ | refine Mix.wp_still (by kernel_rfl) (by kernel_rfl) ?_); (repeat' (first | (refine Mix.lex_quiet0 rfl rfl rfl ?_; intro K hK; go_big_quiet_op; go_big_quiet_on) | (refine Mix.lex_quietG rfl rfl rfl (by with_reducible rfl) rfl rfl ?_; intro K hK; go_big_quiet_op; go_big_quiet_on) | ((first | refine Mix.lex_skipT rfl rfl rfl (by with_reducible rfl) ?_ | refine Mix.lex_skipF rfl rfl rfl (by with_reducible rfl) ?_ | refine Mix.lex_skipU rfl rfl rfl (by with_reducible rfl) ?_); simp only [Act.put, List.setIfInBounds_toArray, List.set_cons_succ, List.set_cons_zero]) | (refine Mix.lex_part rfl rfl rfl rfl (fun hq => ?_) (fun hq => ?_) <;> (fail_if_success (guard_hyp hq :ₛ true = true)) <;> (fail_if_success (guard_hyp hq :ₛ false = false)) <;> first | (exfalso; cases hq; done) | (exfalso; simp only [decide_eq_true_eq, decide_eq_false_iff_not, beq_iff_eq, beq_eq_false_iff_ne, ne_eq, Int.not_lt, Int.not_le] at hq; omega) | simp only [Act.put, List.setIfInBounds_toArray, List.set_cons_succ, List.set_cons_zero]))); all_goals (refine Mix.lex_nil ?_)))
          refine hRm.mono ?_
          rintro e w4 ⟨rfl, hu⟩
          have X4 := Lib.hid (X3.out.then_ext hu)
          have F4 := Lib.hid (F3'.out.on hu)
          clear hu hRm X3 F3' q5 HN
          obtain ⟨rc0, hrc0⟩ : ∃ x, x = rc := ⟨_, rfl⟩
          rw [← hrc0] at F4 ⊢
          clear hrc0 rc
          by_cases hroom : Z.l.many - Z.l.next < j + 1
          · have k2 : decide (((Z.l.many - Z.l.next : Nat) : Int) < (j : Int) + 1) = true := decide_eq_true (by omega)
            have HCo3 := Lib.hid (HCo2.out.trans (if_pos hroom))
            have hCk := Ckpt_c (HM.out.ext X4.out) (HO.out.st.ext X4.out) (HO.out.dk.ext X4.out) HO.out.wide HO.out.n1 HO.out.n2 HO.out.wt (fun e => HO.out.nm (.inl e)) ⟨HO.out.l1.1, HO.out.l1.2.1, HO.out.l1.2.2.1⟩ HO.out.hs (fun x hx => by
              have k3 := chBad_key (HO.out.good.ok x hx)
              have k4 := chBad_val (HO.out.good.ok x hx)
              omega) HO.out.rn HO.out.rt
            have hchl : (ckL (allT Z.rows)).length ≤ 30 := by
              have := HO.out.rt
              unfold ckL chN
              rw [List.length_map, List.length_range]
              omega
            clear HCo2
            go_wp2_with (first | ((first | refine Mix.wpList_guarded rfl ?_ | refine Mix.wp_still (by kernel_rfl) (by kernel_rfl) ?_); (repeat' (first | (refine Mix.lex_quiet0 rfl rfl rfl ?_; intro K hK; go_big_quiet_op; go_big_quiet_on) | (refine Mix.lex_quietG rfl rfl rfl (by with_reducible rfl) rfl rfl ?_; intro K hK; go_big_quiet_op; go_big_quiet_on) | ((first | refine Mix.lex_skipT rfl rfl rfl (by with_reducible rfl) ?_ | refine Mix.lex_skipF rfl rfl rfl (by with_reducible rfl) ?_ | refine Mix.lex_skipU rfl rfl rfl (by with_reducible rfl) ?_); simp only [Act.put, List.setIfInBounds_toArray, List.set_cons_succ, List.set_cons_zero]) | (refine Mix.lex_part rfl rfl rfl rfl (fun hq => ?_) (fun hq => ?_) <;> (fail_if_success (guard_hyp hq :ₛ true = true)) <;> (fail_if_success (guard_hyp hq :ₛ false = false)) <;> first | (exfalso; cases hq; done) | (exfalso; simp only [decide_eq_true_eq, decide_eq_false_iff_not, beq_iff_eq, beq_eq_false_iff_ne, ne_eq, Int.not_lt, Int.not_le] at hq; omega) | simp only [Act.put, List.setIfInBounds_toArray, List.set_cons_succ, List.set_cons_zero]))); all_goals (refine Mix.lex_nil ?_)))
            refine hCk.mono ?_
            rintro e w5 ⟨d1, f1, hck, rfl, Zc, rc, hSO1, hZr, hif⟩
            have SO : Hid (StOn w w5 Z r Zc rc d1) := StOn.from X4.out hSO1
            have HZr := Lib.hid hZr
            have OWU : Hid (w5.ownsRow 0 chT 3 (.slice rA rows'.length rc0) rows'.length (rows'.flatMap chF.enc)) := own_keep F4.out.own hSO1.o fun g hg e => by
              obtain ⟨cur, hcur⟩ := own_cs F4.out.own hg
              exact StS.fp_type (HO.out.st.ext X4.out) (HO.out.dk.ext X4.out) hcur (by decide) (by decide) (by decide) (by decide) (by decide) e
            have HIf := Lib.hid hif
            have HCkd := Lib.hid hck
            clear hSO1 hZr hif hck hCk X4 F4
            by_cases hf1 : f1 = 0
            · subst hf1
              rw [errV_zero]
              obtain ⟨dc, hdc⟩ : ∃ x, x = d1 := ⟨_, rfl⟩
              have hif := HIf.out
              rw [if_pos rfl] at hif
              obtain ⟨hh, lg, hl⟩ := hif
              have HCT : Hid (comF Z.h Z.l.z Z.rows c d = addS Zc.h Zc.l.z Z.rows c dc) := by
                have hk : ckF Z.h Z.l.z Z.rows d = (((Zc.h, Zc.l.z), dc), 0) := by
                  unfold ckF
                  have e1 : ckD (ckHd Z.h Z.l.z (allT Z.rows)) (allT Z.rows) d = (d1, 0) := HCkd.out
                  rw [e1, hh, hl, hdc]
                  rfl
                rw [Hid, HCo3.out, hk]
                rfl
              have HDc : Hid (dc.wait.length ≤ 1000 ∧ (Zc.l.from_ ≤ 1000 ∧ Zc.l.many ≤ 1000 ∧ Zc.l.next ≤ Zc.l.many ∧ Zc.l.first ≤ 1000000000000)) := by
                have k1 := ckD_wait (ckHd Z.h Z.l (allT Z.rows)) (allT Z.rows) d
                rw [HCkd.out] at k1
                have k2 := HO.out.wt
                have k3 := HO.out.l1
                have k4 := (scan_from (first := Z.l.first + Z.l.many) (L := (d1.now.drop 44).take (d.now.length - 44)) (out := _) (used := _) rfl).1
                rw [List.length_take] at k4
                rw [hdc, hl]
                dsimp only at k1 ⊢
                refine ⟨by omega, by omega, by omega, by omega, by omega⟩
              have SO : Hid (StOn w w5 Z r Zc rc dc) := by rw [hdc]; exact SO.out
              clear hdc hh hl HIf HCkd HCo3
              go_upto_region 17 with fail
              have hst := SO.out.st
              have q5 : w5.cell? ⟨Z.g, 5, none⟩ = some (pt Zc.l.g) := by rw [← SO.out.sg]; exact hst.cs.cell 5
              have hMlW : 0 < w.heap.size := by
                obtain ⟨m, hm⟩ := HM.out
                exact World.block_lt_of_cell? w _ hm
              have hGm : NoMl (Gst Zc rc w5) := ⟨fun e => by
                rcases e with e | e
                · rcases SO.out.f _ e with e | e
                  · exact HO.out.nm e
                  · omega
                · have := SO.out.o.size
                  omega⟩
              have hMlU : Ml w5 := HM.out.only SO.out.o HO.out.nm
              have hLW : LgW (Gst Zc rc w5) w5 rc Zc.l dc := ⟨SO.out.dk, by have := hst.lg; rw [← SO.out.g] at this; exact this, fun b hb => .inl (.inl hb), .inl (.inr (.inr rfl))⟩
              have hRob : Rob (Gst Zc rc w5) w5 fun v => SlR chF v A j c := fun v hv => HC.out v (SO.out.o.trans hv fun b hb hf => by
                rcases hf.1 with e | e
                · rcases SO.out.f b e with e | e
                  · exact e
                  · omega
                · have := SO.out.o.size
                  omega)
              have HA := Lib.hid (Add_c (cap := cap) hGm hMlU hLW (fun b hb => .inr hb) hRob HCB.out (by omega) HDc.out.1 (by have := HDc.out.2; omega))
              obtain ⟨R, hR⟩ : ∃ R, R = addF Zc.l c dc := ⟨_, rfl⟩
              obtain ⟨⟨l3, d3⟩, f3⟩ := R
              have hl3g : l3.g = Zc.l.g := by have := addF_g Zc.l c dc; rw [← hR] at this; exact this
              have HAS := Lib.hid (HCT.out.trans (addS_eq (h := Zc.h) (rows := Z.rows) hR.symm))
              rw [← hR] at HA
              have HRob := Lib.hid hRob
              clear hGm hMlU hLW hRob hR hMlW
              go_wp2_with (first | ((first | refine Mix.wpList_guarded rfl ?_ | refine Mix.wp_still (by kernel_rfl) (by kernel_rfl) ?_); (repeat' (first | (refine Mix.lex_quiet0 rfl rfl rfl ?_; intro K hK; go_big_quiet_op; go_big_quiet_on) | (refine Mix.lex_quietG rfl rfl rfl (by with_reducible rfl) rfl rfl ?_; intro K hK; go_big_quiet_op; go_big_quiet_on) | ((first | refine Mix.lex_skipT rfl rfl rfl (by with_reducible rfl) ?_ | refine Mix.lex_skipF rfl rfl rfl (by with_reducible rfl) ?_ | refine Mix.lex_skipU rfl rfl rfl (by with_reducible rfl) ?_); simp only [Act.put, List.setIfInBounds_toArray, List.set_cons_succ, List.set_cons_zero]) | (refine Mix.lex_part rfl rfl rfl rfl (fun hq => ?_) (fun hq => ?_) <;> (fail_if_success (guard_hyp hq :ₛ true = true)) <;> (fail_if_success (guard_hyp hq :ₛ false = false)) <;> first | (exfalso; cases hq; done) | (exfalso; simp only [decide_eq_true_eq, decide_eq_false_iff_not, beq_iff_eq, beq_eq_false_iff_ne, ne_eq, Int.not_lt, Int.not_le] at hq; omega) | simp only [Act.put, List.setIfInBounds_toArray, List.set_cons_succ, List.set_cons_zero]))); all_goals (refine Mix.lex_nil ?_)))
              refine HA.out.mono ?_
              rintro e u3 ⟨rfl, r3, hg3, hl3, hx3⟩
              have O3 : Only (Zc.fp rc) w5 u3 := hx3.weak fun b hb hf => by
                rcases hf.1 with e | e
                · exact e
                · omega
              have C3 : Cs u3 Zc.g stTy (Zc.cells r.g) := hst.cs.frn (by decide) (by decide) (by decide) (by decide) hx3
              have OW3 : u3.ownsRow 0 chT 3 (.slice Zc.A Zc.rows.length Zc.c) Zc.rows.length (Zc.rows.flatMap chF.enc) := own_rob (w0 := Gst Zc rc w5) hst.own (by decide) (by decide) (by decide) (by decide) u3 hx3
              have ON3 : u3.ownsRow 0 chT 3 (.slice rA rows'.length rc0) rows'.length (rows'.flatMap chF.enc) := own_rob (w0 := Gst Zc rc w5) OWU.out (by decide) (by decide) (by decide) (by decide) u3 hx3
              have hrg : r3.g = r.g := hg3.trans SO.out.g
              have L3 : LogAt u3 l3 r.g := by have := hl3.lg; rw [hrg] at this; exact this
              have F3 : ∀ b, r3.fp b → Zc.fp rc b ∨ w5.heap.size ≤ b := fun b hb => hl3.fp b hb
              have HDk3 := Lib.hid hl3.dk
              have HC3 := Lib.hid C3
              have HO3 := Lib.hid O3
              have HOW := Lib.hid OW3
              have HON := Lib.hid ON3
              have HL3 := Lib.hid L3
              have HF3 := Lib.hid F3
              have HRg := Lib.hid hrg
              have HLg := Lib.hid hl3g
              have HSt := Lib.hid hst
              clear C3 O3 OW3 ON3 hrg L3 F3 hl3 hx3 hg3 q5 hst hl3g HA HRob
              by_cases hf3 : f3 = 0
              · have HAS2 := Lib.hid (HAS.out.trans (if_pos hf3))
                subst hf3
                rw [errV_zero]
                have q6 : u3.cell? ⟨Z.g, 6, none⟩ = some (.slice Zc.A Zc.rows.length Zc.c) := by rw [← SO.out.sg]; exact HC3.out.cell 6
                have z6 : u3.frozen? ⟨Z.g, 6, none⟩ = false := by rw [← SO.out.sg]; exact HC3.out.frozen 6
                go_wp2_with (first | ((first | refine Mix.wpList_guarded rfl ?_ | refine Mix.wp_still (by kernel_rfl) (by kernel_rfl) ?_); (repeat' (first | (refine Mix.lex_quiet0 rfl rfl rfl ?_; intro K hK; go_big_quiet_op; go_big_quiet_on) | (refine Mix.lex_quietG rfl rfl rfl (by with_reducible rfl) rfl rfl ?_; intro K hK; go_big_quiet_op; go_big_quiet_on) | ((first | refine Mix.lex_skipT rfl rfl rfl (by with_reducible rfl) ?_ | refine Mix.lex_skipF rfl rfl rfl (by with_reducible rfl) ?_ | refine Mix.lex_skipU rfl rfl rfl (by with_reducible rfl) ?_); simp only [Act.put, List.setIfInBounds_toArray, List.set_cons_succ, List.set_cons_zero]) | (refine Mix.lex_part rfl rfl rfl rfl (fun hq => ?_) (fun hq => ?_) <;> (fail_if_success (guard_hyp hq :ₛ true = true)) <;> (fail_if_success (guard_hyp hq :ₛ false = false)) <;> first | (exfalso; cases hq; done) | (exfalso; simp only [decide_eq_true_eq, decide_eq_false_iff_not, beq_iff_eq, beq_eq_false_iff_ne, ne_eq, Int.not_lt, Int.not_le] at hq; omega) | simp only [Act.put, List.setIfInBounds_toArray, List.set_cons_succ, List.set_cons_zero]))); all_goals (refine Mix.lex_nil ?_)))
                go_ret
                have hsg := SO.out.sg
                have C4 : Cs (u3.setCell ⟨Z.g, 6, none⟩ (.slice rA rows'.length rc0)) Zc.g stTy (stCells r.g Zc.h (pt Zc.l.g) (.slice rA rows'.length rc0)) := by
                  rw [← hsg]
                  have := HC3.out.set_ 6 (.slice rA rows'.length rc0)
                  simp only [List.setIfInBounds_toArray, List.set_cons_succ, List.set_cons_zero] at this
                  exact this
                have O4 : Only (fun b => b = Zc.g) u3 (u3.setCell ⟨Z.g, 6, none⟩ (.slice rA rows'.length rc0)) := by rw [← hsg]; exact (Only.refl _ _).at_ 6 _
                refine ⟨Zc.h, l3.z, applyL Z.rows c, d3, 0, HAS2.out, by rw [errV_zero]; rfl, ⟨Zc.g, Zc.h, l3, rA, rc0, rows'⟩, r3, SO.out.trans ⟨?_, ?_, ⟨?_, ?_, ?_⟩, rfl, ?_, ?_⟩, rfl, rfl, HRows.out⟩
                · exact HDk3.out.keep O4 fun b hb e => by subst e; exact fp_ne HDk3.out HC3.out (by decide) (by decide) (by decide) hb
                · rw [HRg.out, SO.out.g]
                · rw [SO.out.g]
                  show Cs _ Zc.g stTy (stCells r.g Zc.h (pt l3.g) (.slice rA rows'.length rc0))
                  rw [HLg.out]
                  exact C4
                · rw [SO.out.g]
                  exact HL3.out.keep O4 fun e => Cs.ne_ HL3.out HC3.out (by decide) e
                · exact own_keep HON.out O4 fun b hb e => own_ne_cs HON.out HC3.out (by decide) b hb e
                · exact HO3.out.trans O4 fun b hb e => .inr (.inl e)
                · intro b hb
                  rcases hb with e | e | e
                  · exact HF3.out b e
                  · exact .inl (.inr (.inl e))
                  · exact .inl (.inr (.inr (e.trans HLg.out)))
              · have HAS2 := Lib.hid (HAS.out.trans (if_neg hf3))
                rw [errV_pos hf3]
                go_wp2_with (first | ((first | refine Mix.wpList_guarded rfl ?_ | refine Mix.wp_still (by kernel_rfl) (by kernel_rfl) ?_); (repeat' (first | (refine Mix.lex_quiet0 rfl rfl rfl ?_; intro K hK; go_big_quiet_op; go_big_quiet_on) | (refine Mix.lex_quietG rfl rfl rfl (by with_reducible rfl) rfl rfl ?_; intro K hK; go_big_quiet_op; go_big_quiet_on) | ((first | refine Mix.lex_skipT rfl rfl rfl (by with_reducible rfl) ?_ | refine Mix.lex_skipF rfl rfl rfl (by with_reducible rfl) ?_ | refine Mix.lex_skipU rfl rfl rfl (by with_reducible rfl) ?_); simp only [Act.put, List.setIfInBounds_toArray, List.set_cons_succ, List.set_cons_zero]) | (refine Mix.lex_part rfl rfl rfl rfl (fun hq => ?_) (fun hq => ?_) <;> (fail_if_success (guard_hyp hq :ₛ true = true)) <;> (fail_if_success (guard_hyp hq :ₛ false = false)) <;> first | (exfalso; cases hq; done) | (exfalso; simp only [decide_eq_true_eq, decide_eq_false_iff_not, beq_iff_eq, beq_eq_false_iff_ne, ne_eq, Int.not_lt, Int.not_le] at hq; omega) | simp only [Act.put, List.setIfInBounds_toArray, List.set_cons_succ, List.set_cons_zero]))); all_goals (refine Mix.lex_nil ?_)))
                go_ret
                refine ⟨Zc.h, l3.z, Z.rows, d3, f3, HAS2.out, by rw [errV_pos hf3]; rfl, ⟨Zc.g, Zc.h, l3, Zc.A, Zc.c, Zc.rows⟩, r3, SO.out.trans ⟨HDk3.out, ?_, ⟨?_, ?_, HOW.out⟩, rfl, HO3.out, ?_⟩, rfl, rfl, HZr.out⟩
                · rw [HRg.out, SO.out.g]
                · rw [SO.out.g]
                  show Cs _ Zc.g stTy (stCells r.g Zc.h (pt l3.g) (.slice Zc.A Zc.rows.length Zc.c))
                  rw [HLg.out]
                  exact HC3.out
                · rw [SO.out.g]
                  exact HL3.out
                · intro b hb
                  rcases hb with e | e | e
                  · exact HF3.out b e
                  · exact .inl (.inr (.inl e))
                  · exact .inl (.inr (.inr (e.trans HLg.out)))
            · rw [errV_pos hf1]
              have hif := HIf.out
              rw [if_neg hf1] at hif
              have HCT : Hid (comF Z.h Z.l.z Z.rows c d = (((Z.h, Z.l.z, Z.rows), d1), f1)) := by
                have e1 : ckD (ckHd Z.h Z.l.z (allT Z.rows)) (allT Z.rows) d = (d1, f1) := HCkd.out
                have hk : ckF Z.h Z.l.z Z.rows d = (((Z.h, Z.l.z), d1), f1) := by
                  unfold ckF
                  rw [e1, if_neg hf1]
                rw [Hid, HCo3.out, hk, if_neg hf1]
              have HIf2 := Lib.hid hif
              clear hif HIf HCkd HCo3
              go_wp2_with (first | ((first | refine Mix.wpList_guarded rfl ?_ | refine Mix.wp_still (by kernel_rfl) (by kernel_rfl) ?_); (repeat' (first | (refine Mix.lex_quiet0 rfl rfl rfl ?_; intro K hK; go_big_quiet_op; go_big_quiet_on) | (refine Mix.lex_quietG rfl rfl rfl (by with_reducible rfl) rfl rfl ?_; intro K hK; go_big_quiet_op; go_big_quiet_on) | ((first | refine Mix.lex_skipT rfl rfl rfl (by with_reducible rfl) ?_ | refine Mix.lex_skipF rfl rfl rfl (by with_reducible rfl) ?_ | refine Mix.lex_skipU rfl rfl rfl (by with_reducible rfl) ?_); simp only [Act.put, List.setIfInBounds_toArray, List.set_cons_succ, List.set_cons_zero]) | (refine Mix.lex_part rfl rfl rfl rfl (fun hq => ?_) (fun hq => ?_) <;> (fail_if_success (guard_hyp hq :ₛ true = true)) <;> (fail_if_success (guard_hyp hq :ₛ false = false)) <;> first | (exfalso; cases hq; done) | (exfalso; simp only [decide_eq_true_eq, decide_eq_false_iff_not, beq_iff_eq, beq_eq_false_iff_ne, ne_eq, Int.not_lt, Int.not_le] at hq; omega) | simp only [Act.put, List.setIfInBounds_toArray, List.set_cons_succ, List.set_cons_zero]))); all_goals (refine Mix.lex_nil ?_)))
              go_ret
              exact ⟨Z.h, Z.l.z, Z.rows, d1, f1, HCT.out, by rw [errV_pos hf1]; rfl, Zc, rc, SO.out, HIf2.out.1, by rw [HIf2.out.2], HZr.out⟩
          · have k2 : decide (((Z.l.many - Z.l.next : Nat) : Int) < (j : Int) + 1) = false := decide_eq_false (by omega)
            have HCT : Hid (comF Z.h Z.l.z Z.rows c d = addS Z.h Z.l.z Z.rows c d) := HCo2.out.trans (if_neg hroom)
            obtain ⟨Zc, hZc⟩ : ∃ x, x = Z := ⟨_, rfl⟩
            obtain ⟨rc, hrc⟩ : ∃ x, x = r := ⟨_, rfl⟩
            obtain ⟨dc, hdc⟩ : ∃ x, x = d := ⟨_, rfl⟩
            have SO : Hid (StOn w w4 Z r Zc rc dc) := by rw [hZc, hrc, hdc]; exact (StOn.start HO.out.st HO.out.dk).ext X4.out
            have HZr : Hid (Zc.rows = Z.rows) := by rw [hZc]; rfl
            have HDc : Hid (dc.wait.length ≤ 1000 ∧ (Zc.l.from_ ≤ 1000 ∧ Zc.l.many ≤ 1000 ∧ Zc.l.next ≤ Zc.l.many ∧ Zc.l.first ≤ 1000000000000)) := by
              have := HO.out.l1
              have := HO.out.wt
              rw [hZc, hdc]
              exact ⟨by omega, by omega⟩
            have HCT : Hid (comF Z.h Z.l.z Z.rows c d = addS Zc.h Zc.l.z Z.rows c dc) := by rw [hZc, hdc]; exact HCT.out
            have OWU := Lib.hid F4.out.own
            clear hZc hrc hdc HCo2 F4 X4
            go_upto_region 17 with fail
            have hst := SO.out.st
            have q5 : w4.cell? ⟨Z.g, 5, none⟩ = some (pt Zc.l.g) := by rw [← SO.out.sg]; exact hst.cs.cell 5
            have hMlW : 0 < w.heap.size := by
              obtain ⟨m, hm⟩ := HM.out
              exact World.block_lt_of_cell? w _ hm
            have hGm : NoMl (Gst Zc rc w4) := ⟨fun e => by
              rcases e with e | e
              · rcases SO.out.f _ e with e | e
                · exact HO.out.nm e
                · omega
              · have := SO.out.o.size
                omega⟩
            have hMlU : Ml w4 := HM.out.only SO.out.o HO.out.nm
            have hLW : LgW (Gst Zc rc w4) w4 rc Zc.l dc := ⟨SO.out.dk, by have := hst.lg; rw [← SO.out.g] at this; exact this, fun b hb => .inl (.inl hb), .inl (.inr (.inr rfl))⟩
            have hRob : Rob (Gst Zc rc w4) w4 fun v => SlR chF v A j c := fun v hv => HC.out v (SO.out.o.trans hv fun b hb hf => by
              rcases hf.1 with e | e
              · rcases SO.out.f b e with e | e
                · exact e
                · omega
              · have := SO.out.o.size
                omega)
            have HA := Lib.hid (Add_c (cap := cap) hGm hMlU hLW (fun b hb => .inr hb) hRob HCB.out (by omega) HDc.out.1 (by have := HDc.out.2; omega))
            obtain ⟨R, hR⟩ : ∃ R, R = addF Zc.l c dc := ⟨_, rfl⟩
            obtain ⟨⟨l3, d3⟩, f3⟩ := R
            have hl3g : l3.g = Zc.l.g := by have := addF_g Zc.l c dc; rw [← hR] at this; exact this
            have HAS := Lib.hid (HCT.out.trans (addS_eq (h := Zc.h) (rows := Z.rows) hR.symm))
            rw [← hR] at HA
            have HRob := Lib.hid hRob
            clear hGm hMlU hLW hRob hR hMlW
            go_wp2_with (first | ((first | refine Mix.wpList_guarded rfl ?_ | refine Mix.wp_still (by kernel_rfl) (by kernel_rfl) ?_); (repeat' (first | (refine Mix.lex_quiet0 rfl rfl rfl ?_; intro K hK; go_big_quiet_op; go_big_quiet_on) | (refine Mix.lex_quietG rfl rfl rfl (by with_reducible rfl) rfl rfl ?_; intro K hK; go_big_quiet_op; go_big_quiet_on) | ((first | refine Mix.lex_skipT rfl rfl rfl (by with_reducible rfl) ?_ | refine Mix.lex_skipF rfl rfl rfl (by with_reducible rfl) ?_ | refine Mix.lex_skipU rfl rfl rfl (by with_reducible rfl) ?_); simp only [Act.put, List.setIfInBounds_toArray, List.set_cons_succ, List.set_cons_zero]) | (refine Mix.lex_part rfl rfl rfl rfl (fun hq => ?_) (fun hq => ?_) <;> (fail_if_success (guard_hyp hq :ₛ true = true)) <;> (fail_if_success (guard_hyp hq :ₛ false = false)) <;> first | (exfalso; cases hq; done) | (exfalso; simp only [decide_eq_true_eq, decide_eq_false_iff_not, beq_iff_eq, beq_eq_false_iff_ne, ne_eq, Int.not_lt, Int.not_le] at hq; omega) | simp only [Act.put, List.setIfInBounds_toArray, List.set_cons_succ, List.set_cons_zero]))); all_goals (refine Mix.lex_nil ?_)))
            refine HA.out.mono ?_
            rintro e u3 ⟨rfl, r3, hg3, hl3, hx3⟩
            have O3 : Only (Zc.fp rc) w4 u3 := hx3.weak fun b hb hf => by
              rcases hf.1 with e | e
              · exact e
              · omega
            have C3 : Cs u3 Zc.g stTy (Zc.cells r.g) := hst.cs.frn (by decide) (by decide) (by decide) (by decide) hx3
            have OW3 : u3.ownsRow 0 chT 3 (.slice Zc.A Zc.rows.length Zc.c) Zc.rows.length (Zc.rows.flatMap chF.enc) := own_rob (w0 := Gst Zc rc w4) hst.own (by decide) (by decide) (by decide) (by decide) u3 hx3
            have ON3 : u3.ownsRow 0 chT 3 (.slice rA rows'.length rc0) rows'.length (rows'.flatMap chF.enc) := own_rob (w0 := Gst Zc rc w4) OWU.out (by decide) (by decide) (by decide) (by decide) u3 hx3
            have hrg : r3.g = r.g := hg3.trans SO.out.g
            have L3 : LogAt u3 l3 r.g := by have := hl3.lg; rw [hrg] at this; exact this
            have F3 : ∀ b, r3.fp b → Zc.fp rc b ∨ w4.heap.size ≤ b := fun b hb => hl3.fp b hb
            have HDk3 := Lib.hid hl3.dk
            have HC3 := Lib.hid C3
            have HO3 := Lib.hid O3
            have HOW := Lib.hid OW3
            have HON := Lib.hid ON3
            have HL3 := Lib.hid L3
            have HF3 := Lib.hid F3
            have HRg := Lib.hid hrg
            have HLg := Lib.hid hl3g
            have HSt := Lib.hid hst
            clear C3 O3 OW3 ON3 hrg L3 F3 hl3 hx3 hg3 q5 hst hl3g HA HRob
            by_cases hf3 : f3 = 0
            · have HAS2 := Lib.hid (HAS.out.trans (if_pos hf3))
              subst hf3
              rw [errV_zero]
              have q6 : u3.cell? ⟨Z.g, 6, none⟩ = some (.slice Zc.A Zc.rows.length Zc.c) := by rw [← SO.out.sg]; exact HC3.out.cell 6
              have z6 : u3.frozen? ⟨Z.g, 6, none⟩ = false := by rw [← SO.out.sg]; exact HC3.out.frozen 6
              go_wp2_with (first | ((first | refine Mix.wpList_guarded rfl ?_ | refine Mix.wp_still (by kernel_rfl) (by kernel_rfl) ?_); (repeat' (first | (refine Mix.lex_quiet0 rfl rfl rfl ?_; intro K hK; go_big_quiet_op; go_big_quiet_on) | (refine Mix.lex_quietG rfl rfl rfl (by with_reducible rfl) rfl rfl ?_; intro K hK; go_big_quiet_op; go_big_quiet_on) | ((first | refine Mix.lex_skipT rfl rfl rfl (by with_reducible rfl) ?_ | refine Mix.lex_skipF rfl rfl rfl (by with_reducible rfl) ?_ | refine Mix.lex_skipU rfl rfl rfl (by with_reducible rfl) ?_); simp only [Act.put, List.setIfInBounds_toArray, List.set_cons_succ, List.set_cons_zero]) | (refine Mix.lex_part rfl rfl rfl rfl (fun hq => ?_) (fun hq => ?_) <;> (fail_if_success (guard_hyp hq :ₛ true = true)) <;> (fail_if_success (guard_hyp hq :ₛ false = false)) <;> first | (exfalso; cases hq; done) | (exfalso; simp only [decide_eq_true_eq, decide_eq_false_iff_not, beq_iff_eq, beq_eq_false_iff_ne, ne_eq, Int.not_lt, Int.not_le] at hq; omega) | simp only [Act.put, List.setIfInBounds_toArray, List.set_cons_succ, List.set_cons_zero]))); all_goals (refine Mix.lex_nil ?_)))
              go_ret
              have hsg := SO.out.sg
              have C4 : Cs (u3.setCell ⟨Z.g, 6, none⟩ (.slice rA rows'.length rc0)) Zc.g stTy (stCells r.g Zc.h (pt Zc.l.g) (.slice rA rows'.length rc0)) := by
                rw [← hsg]
                have := HC3.out.set_ 6 (.slice rA rows'.length rc0)
                simp only [List.setIfInBounds_toArray, List.set_cons_succ, List.set_cons_zero] at this
                exact this
              have O4 : Only (fun b => b = Zc.g) u3 (u3.setCell ⟨Z.g, 6, none⟩ (.slice rA rows'.length rc0)) := by rw [← hsg]; exact (Only.refl _ _).at_ 6 _
              refine ⟨Zc.h, l3.z, applyL Z.rows c, d3, 0, HAS2.out, by rw [errV_zero]; rfl, ⟨Zc.g, Zc.h, l3, rA, rc0, rows'⟩, r3, SO.out.trans ⟨?_, ?_, ⟨?_, ?_, ?_⟩, rfl, ?_, ?_⟩, rfl, rfl, HRows.out⟩
              · exact HDk3.out.keep O4 fun b hb e => by subst e; exact fp_ne HDk3.out HC3.out (by decide) (by decide) (by decide) hb
              · rw [HRg.out, SO.out.g]
              · rw [SO.out.g]
                show Cs _ Zc.g stTy (stCells r.g Zc.h (pt l3.g) (.slice rA rows'.length rc0))
                rw [HLg.out]
                exact C4
              · rw [SO.out.g]
                exact HL3.out.keep O4 fun e => Cs.ne_ HL3.out HC3.out (by decide) e
              · exact own_keep HON.out O4 fun b hb e => own_ne_cs HON.out HC3.out (by decide) b hb e
              · exact HO3.out.trans O4 fun b hb e => .inr (.inl e)
              · intro b hb
                rcases hb with e | e | e
                · exact HF3.out b e
                · exact .inl (.inr (.inl e))
                · exact .inl (.inr (.inr (e.trans HLg.out)))
            · have HAS2 := Lib.hid (HAS.out.trans (if_neg hf3))
              rw [errV_pos hf3]
              go_wp2_with (first | ((first | refine Mix.wpList_guarded rfl ?_ | refine Mix.wp_still (by kernel_rfl) (by kernel_rfl) ?_); (repeat' (first | (refine Mix.lex_quiet0 rfl rfl rfl ?_; intro K hK; go_big_quiet_op; go_big_quiet_on) | (refine Mix.lex_quietG rfl rfl rfl (by with_reducible rfl) rfl rfl ?_; intro K hK; go_big_quiet_op; go_big_quiet_on) | ((first | refine Mix.lex_skipT rfl rfl rfl (by with_reducible rfl) ?_ | refine Mix.lex_skipF rfl rfl rfl (by with_reducible rfl) ?_ | refine Mix.lex_skipU rfl rfl rfl (by with_reducible rfl) ?_); simp only [Act.put, List.setIfInBounds_toArray, List.set_cons_succ, List.set_cons_zero]) | (refine Mix.lex_part rfl rfl rfl rfl (fun hq => ?_) (fun hq => ?_) <;> (fail_if_success (guard_hyp hq :ₛ true = true)) <;> (fail_if_success (guard_hyp hq :ₛ false = false)) <;> first | (exfalso; cases hq; done) | (exfalso; simp only [decide_eq_true_eq, decide_eq_false_iff_not, beq_iff_eq, beq_eq_false_iff_ne, ne_eq, Int.not_lt, Int.not_le] at hq; omega) | simp only [Act.put, List.setIfInBounds_toArray, List.set_cons_succ, List.set_cons_zero]))); all_goals (refine Mix.lex_nil ?_)))
              go_ret
              refine ⟨Zc.h, l3.z, Z.rows, d3, f3, HAS2.out, by rw [errV_pos hf3]; rfl, ⟨Zc.g, Zc.h, l3, Zc.A, Zc.c, Zc.rows⟩, r3, SO.out.trans ⟨HDk3.out, ?_, ⟨?_, ?_, HOW.out⟩, rfl, HO3.out, ?_⟩, rfl, rfl, HZr.out⟩
              · rw [HRg.out, SO.out.g]
              · rw [SO.out.g]
                show Cs _ Zc.g stTy (stCells r.g Zc.h (pt l3.g) (.slice Zc.A Zc.rows.length Zc.c))
                rw [HLg.out]
                exact HC3.out
              · rw [SO.out.g]
                exact HL3.out
              · intro b hb
                rcases hb with e | e | e
                · exact HF3.out b e
                · exact .inl (.inr (.inl e))
                · exact .inl (.inr (.inr (e.trans HLg.out)))
      · have HCo2 := Lib.hid (HCo.out.trans (if_pos (.inl rfl)))
        go_wp2_with (first | ((first | refine Mix.wpList_guarded rfl ?_ | refine Mix.wp_still (by kernel_rfl) (by kernel_rfl) ?_); (repeat' (first | (refine Mix.lex_quiet0 rfl rfl rfl ?_; intro K hK; go_big_quiet_op; go_big_quiet_on) | (refine Mix.lex_quietG rfl rfl rfl (by with_reducible rfl) rfl rfl ?_; intro K hK; go_big_quiet_op; go_big_quiet_on) | ((first | refine Mix.lex_skipT rfl rfl rfl (by with_reducible rfl) ?_ | refine Mix.lex_skipF rfl rfl rfl (by with_reducible rfl) ?_ | refine Mix.lex_skipU rfl rfl rfl (by with_reducible rfl) ?_); simp only [Act.put, List.setIfInBounds_toArray, List.set_cons_succ, List.set_cons_zero]) | (refine Mix.lex_part rfl rfl rfl rfl (fun hq => ?_) (fun hq => ?_) <;> (fail_if_success (guard_hyp hq :ₛ true = true)) <;> (fail_if_success (guard_hyp hq :ₛ false = false)) <;> first | (exfalso; cases hq; done) | (exfalso; simp only [decide_eq_true_eq, decide_eq_false_iff_not, beq_iff_eq, beq_eq_false_iff_ne, ne_eq, Int.not_lt, Int.not_le] at hq; omega) | simp only [Act.put, List.setIfInBounds_toArray, List.set_cons_succ, List.set_cons_zero]))); all_goals (refine Mix.lex_nil ?_)))
        go_ret
        exact ⟨Z.h, Z.l.z, Z.rows, d, 10, HCo2.out, by rw [errV_pos (by decide)]; rfl, Z, r, (StOn.start HO.out.st HO.out.dk).ext X2.out, rfl, rfl, rfl⟩
end Go.Proofs.Ytaphmmobmadfoaa
