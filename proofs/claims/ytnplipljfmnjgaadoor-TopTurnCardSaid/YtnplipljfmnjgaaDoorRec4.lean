/- recipe.Run. -/
import Derived.Test.YtnplipljfmnjgaaDoorRec3
namespace Go.Proofs.YtnplipljfmnjgaaDoor
open Go Go.RowKit
theorem splB_words (c : UInt8) : ∀ (s : Str), ∀ x ∈ splB c s, x.length ≤ s.length
  | [], x, h => by simp [splB] at h; subst h; simp
  | y :: s, x, h => by
    have ih := splB_words c s
    rw [splB_app] at h
    split at h
    · rcases List.mem_cons.1 h with rfl | h
      · simp
      · have := ih x h; simp; omega
    · cases hs : splB c s with
      | nil => exact absurd hs (splB_ne c s)
      | cons a l =>
        rw [hs] at h ih
        rcases List.mem_cons.1 h with rfl | h
        · have := ih a List.mem_cons_self; simp; omega
        · have := ih x (List.mem_cons_of_mem _ h); simp; omega
theorem splB_fail : splB 32 kFail = [kFail] := by decide
theorem wd_get {cmd : Str} {i : Nat} {x : Str} (h : (splB 32 cmd)[i]? = some x) : wd cmd i = x := by unfold wd; rw [List.getD_eq_getElem?_getD, h]; rfl
theorem rev_len (s : Str) : s.reverse.length ≤ s.length := by simp
theorem sw_len (x y s : Str) : (sw x y s).length ≤ s.length := by simp [sw]
set_option maxRecDepth 100000 in
set_option maxHeartbeats 4000000 in
theorem Run_c' (cmd : Str) {w : World} (hm : Ml w) {g : Nat} {r : OvR} {o : Ov} (h : OvAt oP w g r o) (hs : o.Small) (hrd : ∀ k, (o.rd k).length ≤ maxLen) (ht : wd cmd 0 = kTurn ∨ o.Tx) (hc : cmd.length ≤ 1000) :
    Calls Tryd.prog 15 #[pt g, S cmd] w (OvRes oP w g (o.run cmd).1 (errV (o.run cmd).2)) := by
  have HSp := Lib.hid (Split_c cmd (by omega) 32 hm)
  have HM := Lib.hid hm
  have H := Lib.hid h
  have HSm := Lib.hid hs
  have HTx : Hid (∀ {x : Str}, wd cmd 0 = x → x ≠ kTurn → o.Tx) := fun h1 h2 => ht.resolve_left (fun h3 => h2 (h1.symm.trans h3))
  have HRl := Lib.hid hrd
  clear hrd
  have hgw := h.cs.lt
  obtain ⟨ws, hws⟩ : ∃ ws, ws = splB 32 cmd := ⟨_, rfl⟩
  have hwl : ∀ x ∈ ws, x.length ≤ 1000 := fun x hx => by rw [hws] at hx; have := splB_words 32 cmd x hx; omega
  have hne : ws ≠ [] := by rw [hws]; exact splB_ne _ _
  have hn1 : 1 ≤ ws.length := by cases ws with | nil => exact absurd rfl hne | cons _ _ => simp
  have hn2 : ws.length ≤ 1001 := by rw [hws]; have := splB_le 32 cmd; omega
  rw [← hws] at HSp
  have HWs := Lib.hid hws
  have HWl := Lib.hid hwl
  clear hm h hs ht hws hwl hne
  go_enter Tryd.func15, Tryd.ntmps15
  go_wp2_with (first | (refine Mix.wpList_guarded rfl ?_; (repeat' (first | (refine Mix.lex_quiet0 rfl rfl rfl ?_; intro K hK; go_big_quiet_op; go_big_quiet_on) | (refine Mix.lex_quietG rfl rfl rfl (by with_reducible rfl) rfl rfl ?_; intro K hK; go_big_quiet_op; go_big_quiet_on) | ((first | refine Mix.lex_skipT rfl rfl rfl (by with_reducible rfl) ?_ | refine Mix.lex_skipF rfl rfl rfl (by with_reducible rfl) ?_ | refine Mix.lex_skipU rfl rfl rfl (by with_reducible rfl) ?_); simp only [Act.put, List.setIfInBounds_toArray, List.set_cons_succ, List.set_cons_zero]) | (refine Mix.lex_part rfl rfl rfl rfl (fun hq => ?_) (fun hq => ?_) <;> (fail_if_success (guard_hyp hq :ₛ true = true)) <;> (fail_if_success (guard_hyp hq :ₛ false = false)) <;> first | (exfalso; cases hq; done) | (exfalso; simp only [decide_eq_true_eq, decide_eq_false_iff_not, beq_iff_eq, beq_eq_false_iff_ne, ne_eq, Int.not_lt, Int.not_le] at hq; omega) | simp only [Act.put, List.setIfInBounds_toArray, List.set_cons_succ, List.set_cons_zero]))); all_goals (refine Mix.lex_nil ?_)) | (refine Mix.wp_still (by kernel_rfl) (by kernel_rfl) ?_; (repeat' (first | (refine Mix.lex_quiet0 rfl rfl rfl ?_; intro K hK; go_big_quiet_op; go_big_quiet_on) | (refine Mix.lex_quietG rfl rfl rfl (by with_reducible rfl) rfl rfl ?_; intro K hK; go_big_quiet_op; go_big_quiet_on) | ((first | refine Mix.lex_skipT rfl rfl rfl (by with_reducible rfl) ?_ | refine Mix.lex_skipF rfl rfl rfl (by with_reducible rfl) ?_ | refine Mix.lex_skipU rfl rfl rfl (by with_reducible rfl) ?_); simp only [Act.put, List.setIfInBounds_toArray, List.set_cons_succ, List.set_cons_zero]) | (refine Mix.lex_part rfl rfl rfl rfl (fun hq => ?_) (fun hq => ?_) <;> (fail_if_success (guard_hyp hq :ₛ true = true)) <;> (fail_if_success (guard_hyp hq :ₛ false = false)) <;> first | (exfalso; cases hq; done) | (exfalso; simp only [decide_eq_true_eq, decide_eq_false_iff_not, beq_iff_eq, beq_eq_false_iff_ne, ne_eq, Int.not_lt, Int.not_le] at hq; omega) | simp only [Act.put, List.setIfInBounds_toArray, List.set_cons_succ, List.set_cons_zero]))); all_goals (refine Mix.lex_nil ?_)))
  refine (HSp.out).mono ?_; rintro e uu ⟨A, c, rfl, hf⟩; obtain ⟨ξ1, hnew⟩ : ∃ ξ : X w No, ξ.v = uu := ⟨⟨uu, (X.here w No).h.then_ext hf.ext⟩, rfl⟩; subst hnew; have Hξ1 := Lib.hid hf.ext; have F1 := Lib.hid hf; clear hf
  clear HSp
  obtain ⟨b, rest, rfl, _, _, _, hnc, hcm⟩ := own_block F1.out.own hn1 (by decide)
  have hbn := F1.out.new b rfl
  have hrow := F1.out.row (by decide)
  obtain ⟨n, hn⟩ : ∃ n, n = ws.length := ⟨_, rfl⟩
  go_upto_region 2 with fail
  rw [← hn] at hrow hn1 hn2 hnc ⊢
  obtain ⟨p, hp⟩ : ∃ p, p = ξ1.v.heap.size := ⟨_, rfl⟩
  obtain ⟨u0, hu0⟩ : ∃ u, u = ξ1.v.alloc (.cells #[.slice (some ⟨b, 0, none⟩) n c] 23) := ⟨_, rfl⟩
  have HP : Hid (Cs u0 p 23 #[.slice (some ⟨b, 0, none⟩) n c]) := by rw [hu0, hp]; exact Cs.new _ _ _
  have X0 : Hid (Ext w u0) := by rw [hu0]; exact ξ1.h.alloc _
  have HR : Hid (SlR strF u0 (some ⟨b, 0, none⟩) n ws) := by rw [hu0]; exact hrow.ext ((Only.refl No _).alloc _)
  have hpg : p ≠ g := by have := ξ1.h.size; omega
  have hbg : b ≠ g := by omega
  rw [← hu0, ← hp]
  have HN := Lib.hid hn
  clear hu0 hp hn hrow hbn F1 Hξ1
  obtain ⟨G, hG⟩ : ∃ G : Nat → Prop, G = fun b => b = g := ⟨_, rfl⟩
  have c0 : ∀ ξ : X u0 G, ξ.v.cell? ⟨p, 0, none⟩ = some (.slice (some ⟨b, 0, none⟩) n c) := HP.out.x (by rw [hG]; exact hpg) 0
  have HWc : Hid (∀ k s, ws[k]? = some s → ∀ ξ : X u0 G, ξ.v.cell? ⟨b, k, none⟩ = some (S s)) := fun k s hk ξ => by
    have hkn : k < n := by rw [HN.out]; exact (List.getElem?_eq_some_iff.1 hk).1
    obtain ⟨b', o', z, he, hz, hc'⟩ := strs_get HR.out hkn
    injection he with he
    injection he with e1 e2
    subst e1; subst e2
    rw [hk] at hz
    injection hz with hz
    subst hz
    have := hc' (X.here u0 No)
    rw [Nat.zero_add] at this
    have hlt := World.block_lt_of_cell? _ _ this
    exact (ξ.h.cell (p := ⟨b, k, none⟩) hlt (by rw [hG]; exact hbg)).trans this
  obtain ⟨ζ, hζ⟩ : ∃ ζ : X u0 G, ζ.v = u0 := ⟨X.here _ _, rfl⟩
  rw [← hζ]
  have HZ : Hid (∀ v, Ext ζ.v v → Ext u0 v) := fun v hv => by rw [← hζ]; exact hv
  have HZ0 : Hid (Ext u0 ζ.v) := by rw [hζ]; exact Only.refl _ _
  have HGq := Lib.hid hG
  clear hζ hpg hbg hG
  obtain ⟨w0, r1, rfl⟩ : ∃ w0 r1, ws = w0 :: r1 := by
    cases ws with
    | nil => rw [HN.out] at hn1; simp at hn1
    | cons w0 r1 => exact ⟨w0, r1, rfl⟩
  have d0 := HWc.out 0 w0 rfl
  have HW0 : Hid (wd cmd 0 = w0) := wd_get (by rw [← HWs.out]; rfl)
  have HNw : Hid (nw cmd = n) := by rw [Hid, nw, ← HWs.out, ← HN.out]
  have HFl : Hid (w0 ≠ kFail → (cmd == kFail) = false) := fun h => by
    rw [beq_eq_false_iff_ne]
    rintro rfl
    have := HWs.out
    rw [splB_fail] at this
    injection this with this
    exact h this
  by_cases h0 : w0 = kPut
  · subst h0
    have hcf := HFl.out (by decide)
    clear HFl
    by_cases hn3 : 2 < n
    · obtain ⟨w1, w2, r, rfl⟩ : ∃ w1 w2 r, r1 = w1 :: w2 :: r := by
        have hl := HN.out
        simp only [List.length_cons] at hl
        match r1, hl with
        | w1 :: w2 :: r, _ => exact ⟨w1, w2, r, rfl⟩
        | [], hl => simp at hl <;> omega
        | [_], hl => simp at hl <;> omega
      have d1 := HWc.out 1 w1 rfl
      have HW1 : Hid (wd cmd 1 = w1) := wd_get (by rw [← HWs.out]; rfl)
      have hl1 := HWl.out w1 (by simp)
      have d2 := HWc.out 2 w2 rfl
      have HW2 : Hid (wd cmd 2 = w2) := wd_get (by rw [← HWs.out]; rfl)
      have hl2 := HWl.out w2 (by simp)
      have HRun : Hid (o.run cmd = (o.wr w1 (cmdRest cmd), o.wrF w1 (cmdRest cmd))) := by
        unfold Hid Ov.run
        rw [HW0.out, HNw.out]
        rw [if_pos rfl]; rw [if_pos hn3, HW1.out]
      have hrl : (cmdRest cmd).length ≤ maxLen := by unfold cmdRest maxLen; rw [List.length_drop]; omega
      have CS : Hid (∀ v, Ext u0 v → Calls Tryd.prog 28 #[S cmd, S [32], .int .i64 3] v fun e w' => ∃ A' c', e = .returned (.slice A' 3 c') ∧ SlR strF w' A' 3 [kPut, w1, cmdRest cmd] ∧ Ext v w') := fun v hv => by
        have := SplitN_c (by omega) 32 HWs.out.symm (HM.out.ext (X0.out.then_ext hv))
        rw [show cmdRest cmd = cmd.drop (List.length kPut + List.length w1 + 2) by unfold cmdRest; rw [HW0.out, HW1.out]]
        exact this
      have CW : Hid (∀ v, Ext u0 v → Calls Tryd.prog 27 #[pt g, S w1, S (cmdRest cmd)] v (OvRes oP v g (o.wr w1 (cmdRest cmd)) (errV (o.wrF w1 (cmdRest cmd))))) := fun v hv => Write_ov (H.out.ext (X0.out.then_ext hv)) HSm.out w1 (cmdRest cmd) (by unfold maxLen; omega) hrl
      go_upto_region 3 with fail
      refine Mix.wp_draw [5, 7, 8] 100 (Cl u0 G) (by kernel_rfl) (by kernel_rfl) (Cl.of ζ.h.drew) ?_
      obtain ⟨μ0, hμ0⟩ : ∃ μ0 : X u0 G, μ0.v = ζ.v.drew := ⟨⟨_, ζ.h.drew⟩, rfl⟩
      have HM0 : Hid (Ext u0 μ0.v) := by rw [hμ0]; exact HZ0.out.drew
      rw [← hμ0]
      clear hμ0
      (repeat' (first | (refine Mix.lex_quiet0 rfl rfl rfl ?_; intro K hK; go_big_quiet_op; go_big_quiet_on) | (refine Mix.lex_quietG rfl rfl rfl (by with_reducible rfl) rfl rfl ?_; intro K hK; go_big_quiet_op; go_big_quiet_on) | ((first | refine Mix.lex_skipT rfl rfl rfl (by with_reducible rfl) ?_ | refine Mix.lex_skipF rfl rfl rfl (by with_reducible rfl) ?_ | refine Mix.lex_skipU rfl rfl rfl (by with_reducible rfl) ?_); simp only [Act.put, List.setIfInBounds_toArray, List.set_cons_succ, List.set_cons_zero]) | (refine Mix.lex_part rfl rfl rfl rfl (fun hq => ?_) (fun hq => ?_) <;> (fail_if_success (guard_hyp hq :ₛ true = true)) <;> (fail_if_success (guard_hyp hq :ₛ false = false)) <;> first | (exfalso; cases hq; done) | (exfalso; simp only [decide_eq_true_eq, decide_eq_false_iff_not, beq_iff_eq, beq_eq_false_iff_ne, ne_eq, Int.not_lt, Int.not_le] at hq; omega) | simp only [Act.put, List.setIfInBounds_toArray, List.set_cons_succ, List.set_cons_zero])))
      ((first | refine Mix.lex_goes0 rfl rfl ?_ | refine Mix.lex_goesG rfl rfl rfl (by with_reducible rfl) rfl ?_); intro K hK; go_simp)
      refine (CS.out _ HM0.out).mono ?_
      rintro e u1 ⟨A', c', rfl, hsl, hx⟩
      obtain ⟨b', o', z, rfl, hz, hcz⟩ := strs_get hsl (k := 2) (by omega)
      obtain rfl : z = cmdRest cmd := by injection hz with hz; exact hz.symm
      have f2 : u1.cell? ⟨b', o' + 2, none⟩ = some (S (cmdRest cmd)) := hcz (X.here _ _)
      have HX1 : Hid (Ext u0 u1) := HM0.out.then_ext hx
      refine ⟨_, rfl, hK _ _ (fun _ => Cl.of HX1.out.any) ?_⟩
      clear hK K hsl hcz hx
      obtain ⟨μ1, rfl⟩ : ∃ ξ : X u0 G, u1 = ξ.v := ⟨⟨u1, HX1.out.any⟩, rfl⟩
      simp only [Act.put, List.setIfInBounds_toArray, List.set_cons_succ, List.set_cons_zero]
      (repeat' (first | (refine Mix.lex_quiet0 rfl rfl rfl ?_; intro K hK; go_big_quiet_op; go_big_quiet_on) | (refine Mix.lex_quietG rfl rfl rfl (by with_reducible rfl) rfl rfl ?_; intro K hK; go_big_quiet_op; go_big_quiet_on) | ((first | refine Mix.lex_skipT rfl rfl rfl (by with_reducible rfl) ?_ | refine Mix.lex_skipF rfl rfl rfl (by with_reducible rfl) ?_ | refine Mix.lex_skipU rfl rfl rfl (by with_reducible rfl) ?_); simp only [Act.put, List.setIfInBounds_toArray, List.set_cons_succ, List.set_cons_zero]) | (refine Mix.lex_part rfl rfl rfl rfl (fun hq => ?_) (fun hq => ?_) <;> (fail_if_success (guard_hyp hq :ₛ true = true)) <;> (fail_if_success (guard_hyp hq :ₛ false = false)) <;> first | (exfalso; cases hq; done) | (exfalso; simp only [decide_eq_true_eq, decide_eq_false_iff_not, beq_iff_eq, beq_eq_false_iff_ne, ne_eq, Int.not_lt, Int.not_le] at hq; omega) | simp only [Act.put, List.setIfInBounds_toArray, List.set_cons_succ, List.set_cons_zero])))
      ((first | refine Mix.lex_goes0 rfl rfl ?_ | refine Mix.lex_goesG rfl rfl rfl (by with_reducible rfl) rfl ?_); intro K hK; go_simp)
      refine hK _ _ (fun _ => ⟨μ1, rfl⟩) ?_
      clear hK K f2
      simp only [Act.put, List.setIfInBounds_toArray, List.set_cons_succ, List.set_cons_zero]
      ((first | refine Mix.lex_goes0 rfl rfl ?_ | refine Mix.lex_goesG rfl rfl rfl (by with_reducible rfl) rfl ?_); intro K hK; go_simp)
      refine (CW.out _ HX1.out).mono ?_
      rintro e u ⟨rfl, r', h1, h2⟩
      have HH := Lib.hid h1
      have HO := Lib.hid h2
      have HG2 : Hid (Only G u0 u) := by rw [Hid, HGq.out]; exact HX1.out.any.trans h2 fun _ _ h => h
      refine ⟨_, rfl, hK _ _ (fun _ => Cl.of HG2.out) ?_⟩
      clear hK K h1 h2
      simp only [Act.put, List.setIfInBounds_toArray, List.set_cons_succ, List.set_cons_zero]
      (repeat' (first | (refine Mix.lex_quiet0 rfl rfl rfl ?_; intro K hK; go_big_quiet_op; go_big_quiet_on) | (refine Mix.lex_quietG rfl rfl rfl (by with_reducible rfl) rfl rfl ?_; intro K hK; go_big_quiet_op; go_big_quiet_on) | ((first | refine Mix.lex_skipT rfl rfl rfl (by with_reducible rfl) ?_ | refine Mix.lex_skipF rfl rfl rfl (by with_reducible rfl) ?_ | refine Mix.lex_skipU rfl rfl rfl (by with_reducible rfl) ?_); simp only [Act.put, List.setIfInBounds_toArray, List.set_cons_succ, List.set_cons_zero]) | (refine Mix.lex_part rfl rfl rfl rfl (fun hq => ?_) (fun hq => ?_) <;> (fail_if_success (guard_hyp hq :ₛ true = true)) <;> (fail_if_success (guard_hyp hq :ₛ false = false)) <;> first | (exfalso; cases hq; done) | (exfalso; simp only [decide_eq_true_eq, decide_eq_false_iff_not, beq_iff_eq, beq_eq_false_iff_ne, ne_eq, Int.not_lt, Int.not_le] at hq; omega) | simp only [Act.put, List.setIfInBounds_toArray, List.set_cons_succ, List.set_cons_zero])))
      refine Mix.lex_nil ?_
      go_wp2_with (first | (refine Mix.wpList_guarded rfl ?_; (repeat' (first | (refine Mix.lex_quiet0 rfl rfl rfl ?_; intro K hK; go_big_quiet_op; go_big_quiet_on) | (refine Mix.lex_quietG rfl rfl rfl (by with_reducible rfl) rfl rfl ?_; intro K hK; go_big_quiet_op; go_big_quiet_on) | ((first | refine Mix.lex_skipT rfl rfl rfl (by with_reducible rfl) ?_ | refine Mix.lex_skipF rfl rfl rfl (by with_reducible rfl) ?_ | refine Mix.lex_skipU rfl rfl rfl (by with_reducible rfl) ?_); simp only [Act.put, List.setIfInBounds_toArray, List.set_cons_succ, List.set_cons_zero]) | (refine Mix.lex_part rfl rfl rfl rfl (fun hq => ?_) (fun hq => ?_) <;> (fail_if_success (guard_hyp hq :ₛ true = true)) <;> (fail_if_success (guard_hyp hq :ₛ false = false)) <;> first | (exfalso; cases hq; done) | (exfalso; simp only [decide_eq_true_eq, decide_eq_false_iff_not, beq_iff_eq, beq_eq_false_iff_ne, ne_eq, Int.not_lt, Int.not_le] at hq; omega) | simp only [Act.put, List.setIfInBounds_toArray, List.set_cons_succ, List.set_cons_zero]))); all_goals (refine Mix.lex_nil ?_)) | (refine Mix.wp_still (by kernel_rfl) (by kernel_rfl) ?_; (repeat' (first | (refine Mix.lex_quiet0 rfl rfl rfl ?_; intro K hK; go_big_quiet_op; go_big_quiet_on) | (refine Mix.lex_quietG rfl rfl rfl (by with_reducible rfl) rfl rfl ?_; intro K hK; go_big_quiet_op; go_big_quiet_on) | ((first | refine Mix.lex_skipT rfl rfl rfl (by with_reducible rfl) ?_ | refine Mix.lex_skipF rfl rfl rfl (by with_reducible rfl) ?_ | refine Mix.lex_skipU rfl rfl rfl (by with_reducible rfl) ?_); simp only [Act.put, List.setIfInBounds_toArray, List.set_cons_succ, List.set_cons_zero]) | (refine Mix.lex_part rfl rfl rfl rfl (fun hq => ?_) (fun hq => ?_) <;> (fail_if_success (guard_hyp hq :ₛ true = true)) <;> (fail_if_success (guard_hyp hq :ₛ false = false)) <;> first | (exfalso; cases hq; done) | (exfalso; simp only [decide_eq_true_eq, decide_eq_false_iff_not, beq_iff_eq, beq_eq_false_iff_ne, ne_eq, Int.not_lt, Int.not_le] at hq; omega) | simp only [Act.put, List.setIfInBounds_toArray, List.set_cons_succ, List.set_cons_zero]))); all_goals (refine Mix.lex_nil ?_)))
      go_ret
      rw [HRun.out]
      exact ⟨rfl, r', HH.out, (X0.out.then_ext HX1.out).any.trans HO.out fun _ _ h => h⟩
    · have HRun : Hid (o.run cmd = (o, 4)) := by
        unfold Hid Ov.run
        rw [HW0.out, HNw.out]
        rw [if_pos rfl]; rw [if_neg hn3]
      go_wp2_with (first | (refine Mix.wpList_guarded rfl ?_; (repeat' (first | (refine Mix.lex_quiet0 rfl rfl rfl ?_; intro K hK; go_big_quiet_op; go_big_quiet_on) | (refine Mix.lex_quietG rfl rfl rfl (by with_reducible rfl) rfl rfl ?_; intro K hK; go_big_quiet_op; go_big_quiet_on) | ((first | refine Mix.lex_skipT rfl rfl rfl (by with_reducible rfl) ?_ | refine Mix.lex_skipF rfl rfl rfl (by with_reducible rfl) ?_ | refine Mix.lex_skipU rfl rfl rfl (by with_reducible rfl) ?_); simp only [Act.put, List.setIfInBounds_toArray, List.set_cons_succ, List.set_cons_zero]) | (refine Mix.lex_part rfl rfl rfl rfl (fun hq => ?_) (fun hq => ?_) <;> (fail_if_success (guard_hyp hq :ₛ true = true)) <;> (fail_if_success (guard_hyp hq :ₛ false = false)) <;> first | (exfalso; cases hq; done) | (exfalso; simp only [decide_eq_true_eq, decide_eq_false_iff_not, beq_iff_eq, beq_eq_false_iff_ne, ne_eq, Int.not_lt, Int.not_le] at hq; omega) | simp only [Act.put, List.setIfInBounds_toArray, List.set_cons_succ, List.set_cons_zero]))); all_goals (refine Mix.lex_nil ?_)) | (refine Mix.wp_still (by kernel_rfl) (by kernel_rfl) ?_; (repeat' (first | (refine Mix.lex_quiet0 rfl rfl rfl ?_; intro K hK; go_big_quiet_op; go_big_quiet_on) | (refine Mix.lex_quietG rfl rfl rfl (by with_reducible rfl) rfl rfl ?_; intro K hK; go_big_quiet_op; go_big_quiet_on) | ((first | refine Mix.lex_skipT rfl rfl rfl (by with_reducible rfl) ?_ | refine Mix.lex_skipF rfl rfl rfl (by with_reducible rfl) ?_ | refine Mix.lex_skipU rfl rfl rfl (by with_reducible rfl) ?_); simp only [Act.put, List.setIfInBounds_toArray, List.set_cons_succ, List.set_cons_zero]) | (refine Mix.lex_part rfl rfl rfl rfl (fun hq => ?_) (fun hq => ?_) <;> (fail_if_success (guard_hyp hq :ₛ true = true)) <;> (fail_if_success (guard_hyp hq :ₛ false = false)) <;> first | (exfalso; cases hq; done) | (exfalso; simp only [decide_eq_true_eq, decide_eq_false_iff_not, beq_iff_eq, beq_eq_false_iff_ne, ne_eq, Int.not_lt, Int.not_le] at hq; omega) | simp only [Act.put, List.setIfInBounds_toArray, List.set_cons_succ, List.set_cons_zero]))); all_goals (refine Mix.lex_nil ?_)))
      go_ret
      rw [HRun.out]
      exact OvRes.of_ext H.out rfl (X0.out.then_ext HZ0.out)
  by_cases h1 : w0 = kCopy
  · subst h1
    have hcf := HFl.out (by decide)
    clear HFl
    by_cases hn3 : n = 3
    · subst hn3
      obtain ⟨w1, w2, r, rfl⟩ : ∃ w1 w2 r, r1 = w1 :: w2 :: r := by
        have hl := HN.out
        simp only [List.length_cons] at hl
        match r1, hl with
        | w1 :: w2 :: r, _ => exact ⟨w1, w2, r, rfl⟩
        | [], hl => simp at hl <;> omega
        | [_], hl => simp at hl <;> omega
      have d1 := HWc.out 1 w1 rfl
      have HW1 : Hid (wd cmd 1 = w1) := wd_get (by rw [← HWs.out]; rfl)
      have hl1 := HWl.out w1 (by simp)
      have d2 := HWc.out 2 w2 rfl
      have HW2 : Hid (wd cmd 2 = w2) := wd_get (by rw [← HWs.out]; rfl)
      have hl2 := HWl.out w2 (by simp)
      have HRun : Hid (o.run cmd = o.two w1 w2 id) := by
        unfold Hid Ov.run
        rw [HW0.out, HNw.out]
        rw [if_neg (by decide)]; rw [if_pos rfl]; rw [if_pos rfl, HW1.out, HW2.out]
      have CW : Hid (∀ v, Ext u0 v → Calls Tryd.prog 29 #[pt g, S w1, S w2, .func (.func 30) #[] #[]] v (OvRes oP v g (o.two w1 w2 id).1 (errV (o.two w1 w2 id).2))) := fun v hv => two_id (H.out.ext (X0.out.then_ext hv)) HSm.out 1000 (by unfold maxLen; omega) w1 w2 (Ov.rd_len (HTx.out HW0.out (by decide)) w1) (by unfold maxLen; omega) (by unfold maxLen; omega) id (fun s => Nat.le_refl _) (fun v _ s _ => id_c s v)
      go_upto_region 5 with fail
      refine Mix.wp_draw [7] 100 (Cl u0 G) (by kernel_rfl) (by kernel_rfl) (Cl.of ζ.h.drew) ?_
      obtain ⟨μ0, hμ0⟩ : ∃ μ0 : X u0 G, μ0.v = ζ.v.drew := ⟨⟨_, ζ.h.drew⟩, rfl⟩
      have HM0 : Hid (Ext u0 μ0.v) := by rw [hμ0]; exact HZ0.out.drew
      rw [← hμ0]
      clear hμ0
      (repeat' (first | (refine Mix.lex_quiet0 rfl rfl rfl ?_; intro K hK; go_big_quiet_op; go_big_quiet_on) | (refine Mix.lex_quietG rfl rfl rfl (by with_reducible rfl) rfl rfl ?_; intro K hK; go_big_quiet_op; go_big_quiet_on) | ((first | refine Mix.lex_skipT rfl rfl rfl (by with_reducible rfl) ?_ | refine Mix.lex_skipF rfl rfl rfl (by with_reducible rfl) ?_ | refine Mix.lex_skipU rfl rfl rfl (by with_reducible rfl) ?_); simp only [Act.put, List.setIfInBounds_toArray, List.set_cons_succ, List.set_cons_zero]) | (refine Mix.lex_part rfl rfl rfl rfl (fun hq => ?_) (fun hq => ?_) <;> (fail_if_success (guard_hyp hq :ₛ true = true)) <;> (fail_if_success (guard_hyp hq :ₛ false = false)) <;> first | (exfalso; cases hq; done) | (exfalso; simp only [decide_eq_true_eq, decide_eq_false_iff_not, beq_iff_eq, beq_eq_false_iff_ne, ne_eq, Int.not_lt, Int.not_le] at hq; omega) | simp only [Act.put, List.setIfInBounds_toArray, List.set_cons_succ, List.set_cons_zero])))
      ((first | refine Mix.lex_goes0 rfl rfl ?_ | refine Mix.lex_goesG rfl rfl rfl (by with_reducible rfl) rfl ?_); intro K hK; go_simp)
      refine (CW.out _ HM0.out).mono ?_
      rintro e u ⟨rfl, r', h1, h2⟩
      have HH := Lib.hid h1
      have HO := Lib.hid h2
      have HG2 : Hid (Only G u0 u) := by rw [Hid, HGq.out]; exact HM0.out.any.trans h2 fun _ _ h => h
      refine ⟨_, rfl, hK _ _ (fun _ => Cl.of HG2.out) ?_⟩
      clear hK K h1 h2
      simp only [Act.put, List.setIfInBounds_toArray, List.set_cons_succ, List.set_cons_zero]
      (repeat' (first | (refine Mix.lex_quiet0 rfl rfl rfl ?_; intro K hK; go_big_quiet_op; go_big_quiet_on) | (refine Mix.lex_quietG rfl rfl rfl (by with_reducible rfl) rfl rfl ?_; intro K hK; go_big_quiet_op; go_big_quiet_on) | ((first | refine Mix.lex_skipT rfl rfl rfl (by with_reducible rfl) ?_ | refine Mix.lex_skipF rfl rfl rfl (by with_reducible rfl) ?_ | refine Mix.lex_skipU rfl rfl rfl (by with_reducible rfl) ?_); simp only [Act.put, List.setIfInBounds_toArray, List.set_cons_succ, List.set_cons_zero]) | (refine Mix.lex_part rfl rfl rfl rfl (fun hq => ?_) (fun hq => ?_) <;> (fail_if_success (guard_hyp hq :ₛ true = true)) <;> (fail_if_success (guard_hyp hq :ₛ false = false)) <;> first | (exfalso; cases hq; done) | (exfalso; simp only [decide_eq_true_eq, decide_eq_false_iff_not, beq_iff_eq, beq_eq_false_iff_ne, ne_eq, Int.not_lt, Int.not_le] at hq; omega) | simp only [Act.put, List.setIfInBounds_toArray, List.set_cons_succ, List.set_cons_zero])))
      refine Mix.lex_nil ?_
      go_wp2_with (first | (refine Mix.wpList_guarded rfl ?_; (repeat' (first | (refine Mix.lex_quiet0 rfl rfl rfl ?_; intro K hK; go_big_quiet_op; go_big_quiet_on) | (refine Mix.lex_quietG rfl rfl rfl (by with_reducible rfl) rfl rfl ?_; intro K hK; go_big_quiet_op; go_big_quiet_on) | ((first | refine Mix.lex_skipT rfl rfl rfl (by with_reducible rfl) ?_ | refine Mix.lex_skipF rfl rfl rfl (by with_reducible rfl) ?_ | refine Mix.lex_skipU rfl rfl rfl (by with_reducible rfl) ?_); simp only [Act.put, List.setIfInBounds_toArray, List.set_cons_succ, List.set_cons_zero]) | (refine Mix.lex_part rfl rfl rfl rfl (fun hq => ?_) (fun hq => ?_) <;> (fail_if_success (guard_hyp hq :ₛ true = true)) <;> (fail_if_success (guard_hyp hq :ₛ false = false)) <;> first | (exfalso; cases hq; done) | (exfalso; simp only [decide_eq_true_eq, decide_eq_false_iff_not, beq_iff_eq, beq_eq_false_iff_ne, ne_eq, Int.not_lt, Int.not_le] at hq; omega) | simp only [Act.put, List.setIfInBounds_toArray, List.set_cons_succ, List.set_cons_zero]))); all_goals (refine Mix.lex_nil ?_)) | (refine Mix.wp_still (by kernel_rfl) (by kernel_rfl) ?_; (repeat' (first | (refine Mix.lex_quiet0 rfl rfl rfl ?_; intro K hK; go_big_quiet_op; go_big_quiet_on) | (refine Mix.lex_quietG rfl rfl rfl (by with_reducible rfl) rfl rfl ?_; intro K hK; go_big_quiet_op; go_big_quiet_on) | ((first | refine Mix.lex_skipT rfl rfl rfl (by with_reducible rfl) ?_ | refine Mix.lex_skipF rfl rfl rfl (by with_reducible rfl) ?_ | refine Mix.lex_skipU rfl rfl rfl (by with_reducible rfl) ?_); simp only [Act.put, List.setIfInBounds_toArray, List.set_cons_succ, List.set_cons_zero]) | (refine Mix.lex_part rfl rfl rfl rfl (fun hq => ?_) (fun hq => ?_) <;> (fail_if_success (guard_hyp hq :ₛ true = true)) <;> (fail_if_success (guard_hyp hq :ₛ false = false)) <;> first | (exfalso; cases hq; done) | (exfalso; simp only [decide_eq_true_eq, decide_eq_false_iff_not, beq_iff_eq, beq_eq_false_iff_ne, ne_eq, Int.not_lt, Int.not_le] at hq; omega) | simp only [Act.put, List.setIfInBounds_toArray, List.set_cons_succ, List.set_cons_zero]))); all_goals (refine Mix.lex_nil ?_)))
      go_ret
      rw [HRun.out]
      exact ⟨rfl, r', HH.out, (X0.out.then_ext HM0.out).any.trans HO.out fun _ _ h => h⟩
    · have HRun : Hid (o.run cmd = (o, 4)) := by
        unfold Hid Ov.run
        rw [HW0.out, HNw.out]
        rw [if_neg (by decide)]; rw [if_pos rfl]; rw [if_neg hn3]
      have hn4 : ((n : Int) == 3) = false := by rw [beq_eq_false_iff_ne]; omega
      go_wp2_with (first | (refine Mix.wpList_guarded rfl ?_; (repeat' (first | (refine Mix.lex_quiet0 rfl rfl rfl ?_; intro K hK; go_big_quiet_op; go_big_quiet_on) | (refine Mix.lex_quietG rfl rfl rfl (by with_reducible rfl) rfl rfl ?_; intro K hK; go_big_quiet_op; go_big_quiet_on) | ((first | refine Mix.lex_skipT rfl rfl rfl (by with_reducible rfl) ?_ | refine Mix.lex_skipF rfl rfl rfl (by with_reducible rfl) ?_ | refine Mix.lex_skipU rfl rfl rfl (by with_reducible rfl) ?_); simp only [Act.put, List.setIfInBounds_toArray, List.set_cons_succ, List.set_cons_zero]) | (refine Mix.lex_part rfl rfl rfl rfl (fun hq => ?_) (fun hq => ?_) <;> (fail_if_success (guard_hyp hq :ₛ true = true)) <;> (fail_if_success (guard_hyp hq :ₛ false = false)) <;> first | (exfalso; cases hq; done) | (exfalso; simp only [decide_eq_true_eq, decide_eq_false_iff_not, beq_iff_eq, beq_eq_false_iff_ne, ne_eq, Int.not_lt, Int.not_le] at hq; omega) | simp only [Act.put, List.setIfInBounds_toArray, List.set_cons_succ, List.set_cons_zero]))); all_goals (refine Mix.lex_nil ?_)) | (refine Mix.wp_still (by kernel_rfl) (by kernel_rfl) ?_; (repeat' (first | (refine Mix.lex_quiet0 rfl rfl rfl ?_; intro K hK; go_big_quiet_op; go_big_quiet_on) | (refine Mix.lex_quietG rfl rfl rfl (by with_reducible rfl) rfl rfl ?_; intro K hK; go_big_quiet_op; go_big_quiet_on) | ((first | refine Mix.lex_skipT rfl rfl rfl (by with_reducible rfl) ?_ | refine Mix.lex_skipF rfl rfl rfl (by with_reducible rfl) ?_ | refine Mix.lex_skipU rfl rfl rfl (by with_reducible rfl) ?_); simp only [Act.put, List.setIfInBounds_toArray, List.set_cons_succ, List.set_cons_zero]) | (refine Mix.lex_part rfl rfl rfl rfl (fun hq => ?_) (fun hq => ?_) <;> (fail_if_success (guard_hyp hq :ₛ true = true)) <;> (fail_if_success (guard_hyp hq :ₛ false = false)) <;> first | (exfalso; cases hq; done) | (exfalso; simp only [decide_eq_true_eq, decide_eq_false_iff_not, beq_iff_eq, beq_eq_false_iff_ne, ne_eq, Int.not_lt, Int.not_le] at hq; omega) | simp only [Act.put, List.setIfInBounds_toArray, List.set_cons_succ, List.set_cons_zero]))); all_goals (refine Mix.lex_nil ?_)))
      go_ret
      rw [HRun.out]
      exact OvRes.of_ext H.out rfl (X0.out.then_ext HZ0.out)
  by_cases h2 : w0 = kTurn
  · subst h2
    have hcf := HFl.out (by decide)
    clear HFl
    by_cases hn3 : n = 3
    · subst hn3
      obtain ⟨w1, w2, r, rfl⟩ : ∃ w1 w2 r, r1 = w1 :: w2 :: r := by
        have hl := HN.out
        simp only [List.length_cons] at hl
        match r1, hl with
        | w1 :: w2 :: r, _ => exact ⟨w1, w2, r, rfl⟩
        | [], hl => simp at hl <;> omega
        | [_], hl => simp at hl <;> omega
      have d1 := HWc.out 1 w1 rfl
      have HW1 : Hid (wd cmd 1 = w1) := wd_get (by rw [← HWs.out]; rfl)
      have hl1 := HWl.out w1 (by simp)
      have d2 := HWc.out 2 w2 rfl
      have HW2 : Hid (wd cmd 2 = w2) := wd_get (by rw [← HWs.out]; rfl)
      have hl2 := HWl.out w2 (by simp)
      have HRun : Hid (o.run cmd = o.two w1 w2 List.reverse) := by
        unfold Hid Ov.run
        rw [HW0.out, HNw.out]
        rw [if_neg (by decide)]; rw [if_neg (by decide)]; rw [if_pos rfl]; rw [if_pos rfl, HW1.out, HW2.out]
      have CW : Hid (∀ v, Ext u0 v → Calls Tryd.prog 29 #[pt g, S w1, S w2, .func (.func 31) #[] #[]] v (OvRes oP v g (o.two w1 w2 List.reverse).1 (errV (o.two w1 w2 List.reverse).2))) := fun v hv => two_turn (H.out.ext (X0.out.then_ext hv)) HSm.out maxLen (Nat.le_refl _) w1 w2 (HRl.out w1) (by unfold maxLen; omega) (by unfold maxLen; omega) List.reverse rev_len (fun v _ s h => turned_c s h v)
      go_upto_region 7 with fail
      refine Mix.wp_draw [7] 100 (Cl u0 G) (by kernel_rfl) (by kernel_rfl) (Cl.of ζ.h.drew) ?_
      obtain ⟨μ0, hμ0⟩ : ∃ μ0 : X u0 G, μ0.v = ζ.v.drew := ⟨⟨_, ζ.h.drew⟩, rfl⟩
      have HM0 : Hid (Ext u0 μ0.v) := by rw [hμ0]; exact HZ0.out.drew
      rw [← hμ0]
      clear hμ0
      (repeat' (first | (refine Mix.lex_quiet0 rfl rfl rfl ?_; intro K hK; go_big_quiet_op; go_big_quiet_on) | (refine Mix.lex_quietG rfl rfl rfl (by with_reducible rfl) rfl rfl ?_; intro K hK; go_big_quiet_op; go_big_quiet_on) | ((first | refine Mix.lex_skipT rfl rfl rfl (by with_reducible rfl) ?_ | refine Mix.lex_skipF rfl rfl rfl (by with_reducible rfl) ?_ | refine Mix.lex_skipU rfl rfl rfl (by with_reducible rfl) ?_); simp only [Act.put, List.setIfInBounds_toArray, List.set_cons_succ, List.set_cons_zero]) | (refine Mix.lex_part rfl rfl rfl rfl (fun hq => ?_) (fun hq => ?_) <;> (fail_if_success (guard_hyp hq :ₛ true = true)) <;> (fail_if_success (guard_hyp hq :ₛ false = false)) <;> first | (exfalso; cases hq; done) | (exfalso; simp only [decide_eq_true_eq, decide_eq_false_iff_not, beq_iff_eq, beq_eq_false_iff_ne, ne_eq, Int.not_lt, Int.not_le] at hq; omega) | simp only [Act.put, List.setIfInBounds_toArray, List.set_cons_succ, List.set_cons_zero])))
      ((first | refine Mix.lex_goes0 rfl rfl ?_ | refine Mix.lex_goesG rfl rfl rfl (by with_reducible rfl) rfl ?_); intro K hK; go_simp)
      refine (CW.out _ HM0.out).mono ?_
      rintro e u ⟨rfl, r', h1, h2⟩
      have HH := Lib.hid h1
      have HO := Lib.hid h2
      have HG2 : Hid (Only G u0 u) := by rw [Hid, HGq.out]; exact HM0.out.any.trans h2 fun _ _ h => h
      refine ⟨_, rfl, hK _ _ (fun _ => Cl.of HG2.out) ?_⟩
      clear hK K h1 h2
      simp only [Act.put, List.setIfInBounds_toArray, List.set_cons_succ, List.set_cons_zero]
      (repeat' (first | (refine Mix.lex_quiet0 rfl rfl rfl ?_; intro K hK; go_big_quiet_op; go_big_quiet_on) | (refine Mix.lex_quietG rfl rfl rfl (by with_reducible rfl) rfl rfl ?_; intro K hK; go_big_quiet_op; go_big_quiet_on) | ((first | refine Mix.lex_skipT rfl rfl rfl (by with_reducible rfl) ?_ | refine Mix.lex_skipF rfl rfl rfl (by with_reducible rfl) ?_ | refine Mix.lex_skipU rfl rfl rfl (by with_reducible rfl) ?_); simp only [Act.put, List.setIfInBounds_toArray, List.set_cons_succ, List.set_cons_zero]) | (refine Mix.lex_part rfl rfl rfl rfl (fun hq => ?_) (fun hq => ?_) <;> (fail_if_success (guard_hyp hq :ₛ true = true)) <;> (fail_if_success (guard_hyp hq :ₛ false = false)) <;> first | (exfalso; cases hq; done) | (exfalso; simp only [decide_eq_true_eq, decide_eq_false_iff_not, beq_iff_eq, beq_eq_false_iff_ne, ne_eq, Int.not_lt, Int.not_le] at hq; omega) | simp only [Act.put, List.setIfInBounds_toArray, List.set_cons_succ, List.set_cons_zero])))
      refine Mix.lex_nil ?_
      go_wp2_with (first | (refine Mix.wpList_guarded rfl ?_; (repeat' (first | (refine Mix.lex_quiet0 rfl rfl rfl ?_; intro K hK; go_big_quiet_op; go_big_quiet_on) | (refine Mix.lex_quietG rfl rfl rfl (by with_reducible rfl) rfl rfl ?_; intro K hK; go_big_quiet_op; go_big_quiet_on) | ((first | refine Mix.lex_skipT rfl rfl rfl (by with_reducible rfl) ?_ | refine Mix.lex_skipF rfl rfl rfl (by with_reducible rfl) ?_ | refine Mix.lex_skipU rfl rfl rfl (by with_reducible rfl) ?_); simp only [Act.put, List.setIfInBounds_toArray, List.set_cons_succ, List.set_cons_zero]) | (refine Mix.lex_part rfl rfl rfl rfl (fun hq => ?_) (fun hq => ?_) <;> (fail_if_success (guard_hyp hq :ₛ true = true)) <;> (fail_if_success (guard_hyp hq :ₛ false = false)) <;> first | (exfalso; cases hq; done) | (exfalso; simp only [decide_eq_true_eq, decide_eq_false_iff_not, beq_iff_eq, beq_eq_false_iff_ne, ne_eq, Int.not_lt, Int.not_le] at hq; omega) | simp only [Act.put, List.setIfInBounds_toArray, List.set_cons_succ, List.set_cons_zero]))); all_goals (refine Mix.lex_nil ?_)) | (refine Mix.wp_still (by kernel_rfl) (by kernel_rfl) ?_; (repeat' (first | (refine Mix.lex_quiet0 rfl rfl rfl ?_; intro K hK; go_big_quiet_op; go_big_quiet_on) | (refine Mix.lex_quietG rfl rfl rfl (by with_reducible rfl) rfl rfl ?_; intro K hK; go_big_quiet_op; go_big_quiet_on) | ((first | refine Mix.lex_skipT rfl rfl rfl (by with_reducible rfl) ?_ | refine Mix.lex_skipF rfl rfl rfl (by with_reducible rfl) ?_ | refine Mix.lex_skipU rfl rfl rfl (by with_reducible rfl) ?_); simp only [Act.put, List.setIfInBounds_toArray, List.set_cons_succ, List.set_cons_zero]) | (refine Mix.lex_part rfl rfl rfl rfl (fun hq => ?_) (fun hq => ?_) <;> (fail_if_success (guard_hyp hq :ₛ true = true)) <;> (fail_if_success (guard_hyp hq :ₛ false = false)) <;> first | (exfalso; cases hq; done) | (exfalso; simp only [decide_eq_true_eq, decide_eq_false_iff_not, beq_iff_eq, beq_eq_false_iff_ne, ne_eq, Int.not_lt, Int.not_le] at hq; omega) | simp only [Act.put, List.setIfInBounds_toArray, List.set_cons_succ, List.set_cons_zero]))); all_goals (refine Mix.lex_nil ?_)))
      go_ret
      rw [HRun.out]
      exact ⟨rfl, r', HH.out, (X0.out.then_ext HM0.out).any.trans HO.out fun _ _ h => h⟩
    · have HRun : Hid (o.run cmd = (o, 4)) := by
        unfold Hid Ov.run
        rw [HW0.out, HNw.out]
        rw [if_neg (by decide)]; rw [if_neg (by decide)]; rw [if_pos rfl]; rw [if_neg hn3]
      have hn4 : ((n : Int) == 3) = false := by rw [beq_eq_false_iff_ne]; omega
      go_wp2_with (first | (refine Mix.wpList_guarded rfl ?_; (repeat' (first | (refine Mix.lex_quiet0 rfl rfl rfl ?_; intro K hK; go_big_quiet_op; go_big_quiet_on) | (refine Mix.lex_quietG rfl rfl rfl (by with_reducible rfl) rfl rfl ?_; intro K hK; go_big_quiet_op; go_big_quiet_on) | ((first | refine Mix.lex_skipT rfl rfl rfl (by with_reducible rfl) ?_ | refine Mix.lex_skipF rfl rfl rfl (by with_reducible rfl) ?_ | refine Mix.lex_skipU rfl rfl rfl (by with_reducible rfl) ?_); simp only [Act.put, List.setIfInBounds_toArray, List.set_cons_succ, List.set_cons_zero]) | (refine Mix.lex_part rfl rfl rfl rfl (fun hq => ?_) (fun hq => ?_) <;> (fail_if_success (guard_hyp hq :ₛ true = true)) <;> (fail_if_success (guard_hyp hq :ₛ false = false)) <;> first | (exfalso; cases hq; done) | (exfalso; simp only [decide_eq_true_eq, decide_eq_false_iff_not, beq_iff_eq, beq_eq_false_iff_ne, ne_eq, Int.not_lt, Int.not_le] at hq; omega) | simp only [Act.put, List.setIfInBounds_toArray, List.set_cons_succ, List.set_cons_zero]))); all_goals (refine Mix.lex_nil ?_)) | (refine Mix.wp_still (by kernel_rfl) (by kernel_rfl) ?_; (repeat' (first | (refine Mix.lex_quiet0 rfl rfl rfl ?_; intro K hK; go_big_quiet_op; go_big_quiet_on) | (refine Mix.lex_quietG rfl rfl rfl (by with_reducible rfl) rfl rfl ?_; intro K hK; go_big_quiet_op; go_big_quiet_on) | ((first | refine Mix.lex_skipT rfl rfl rfl (by with_reducible rfl) ?_ | refine Mix.lex_skipF rfl rfl rfl (by with_reducible rfl) ?_ | refine Mix.lex_skipU rfl rfl rfl (by with_reducible rfl) ?_); simp only [Act.put, List.setIfInBounds_toArray, List.set_cons_succ, List.set_cons_zero]) | (refine Mix.lex_part rfl rfl rfl rfl (fun hq => ?_) (fun hq => ?_) <;> (fail_if_success (guard_hyp hq :ₛ true = true)) <;> (fail_if_success (guard_hyp hq :ₛ false = false)) <;> first | (exfalso; cases hq; done) | (exfalso; simp only [decide_eq_true_eq, decide_eq_false_iff_not, beq_iff_eq, beq_eq_false_iff_ne, ne_eq, Int.not_lt, Int.not_le] at hq; omega) | simp only [Act.put, List.setIfInBounds_toArray, List.set_cons_succ, List.set_cons_zero]))); all_goals (refine Mix.lex_nil ?_)))
      go_ret
      rw [HRun.out]
      exact OvRes.of_ext H.out rfl (X0.out.then_ext HZ0.out)
  by_cases h3 : w0 = kSwap
  · subst h3
    have hcf := HFl.out (by decide)
    clear HFl
    by_cases hn3 : n = 5
    · subst hn3
      obtain ⟨w1, w2, w3, w4, r, rfl⟩ : ∃ w1 w2 w3 w4 r, r1 = w1 :: w2 :: w3 :: w4 :: r := by
        have hl := HN.out
        simp only [List.length_cons] at hl
        match r1, hl with
        | w1 :: w2 :: w3 :: w4 :: r, _ => exact ⟨w1, w2, w3, w4, r, rfl⟩
        | [], hl => simp at hl <;> omega
        | [_], hl => simp at hl <;> omega
        | [_, _], hl => simp at hl <;> omega
        | [_, _, _], hl => simp at hl <;> omega
      have d1 := HWc.out 1 w1 rfl
      have HW1 : Hid (wd cmd 1 = w1) := wd_get (by rw [← HWs.out]; rfl)
      have hl1 := HWl.out w1 (by simp)
      have d2 := HWc.out 2 w2 rfl
      have HW2 : Hid (wd cmd 2 = w2) := wd_get (by rw [← HWs.out]; rfl)
      have hl2 := HWl.out w2 (by simp)
      have d3 := HWc.out 3 w3 rfl
      have HW3 : Hid (wd cmd 3 = w3) := wd_get (by rw [← HWs.out]; rfl)
      have hl3 := HWl.out w3 (by simp)
      have d4 := HWc.out 4 w4 rfl
      have HW4 : Hid (wd cmd 4 = w4) := wd_get (by rw [← HWs.out]; rfl)
      have hl4 := HWl.out w4 (by simp)
      by_cases h3 : w3.length = 1
      · by_cases h4 : w4.length = 1
        · obtain ⟨x, rfl⟩ : ∃ x, w3 = [x] := List.length_eq_one_iff.1 h3
          obtain ⟨y, rfl⟩ : ∃ y, w4 = [y] := List.length_eq_one_iff.1 h4
          have HRun : Hid (o.run cmd = o.two w1 w2 (sw [x] [y])) := by
            unfold Hid Ov.run
            rw [HW0.out, HNw.out]
            rw [if_neg (by decide)]; rw [if_neg (by decide)]; rw [if_neg (by decide)]; rw [if_pos rfl]
            rw [HW3.out, HW4.out, if_pos ⟨rfl, rfl, rfl⟩, HW1.out, HW2.out]
          have CW : Hid (∀ v, Ext u0 v → Calls Tryd.prog 29 #[pt g, S w1, S w2, .func (.func 32) #[] #[.pointer (some ⟨p, 0, none⟩)]] v (OvRes oP v g (o.two w1 w2 (sw [x] [y])).1 (errV (o.two w1 w2 (sw [x] [y])).2))) := fun v hv => two_swap (H.out.ext (X0.out.then_ext hv)) HSm.out 1000 (by unfold maxLen; omega) w1 w2 (Ov.rd_len (HTx.out HW0.out (by decide)) w1) (by unfold maxLen; omega) (by unfold maxLen; omega) (sw [x] [y]) (sw_len _ _) p (fun u hu s hs => swap_c (HM.out.ext ((X0.out.then_ext hv).then_ext hu)) (HP.out.keep (hv.then_ext hu) id) (HR.out.ext (hv.then_ext hu)) rfl rfl rfl s hs)
          go_upto_region 9 with fail
          refine Mix.wp_draw [8] 100 (Cl u0 G) (by kernel_rfl) (by kernel_rfl) (Cl.of ζ.h.drew) ?_
          obtain ⟨μ0, hμ0⟩ : ∃ μ0 : X u0 G, μ0.v = ζ.v.drew := ⟨⟨_, ζ.h.drew⟩, rfl⟩
          have HM0 : Hid (Ext u0 μ0.v) := by rw [hμ0]; exact HZ0.out.drew
          rw [← hμ0]
          clear hμ0
          (repeat' (first | (refine Mix.lex_quiet0 rfl rfl rfl ?_; intro K hK; go_big_quiet_op; go_big_quiet_on) | (refine Mix.lex_quietG rfl rfl rfl (by with_reducible rfl) rfl rfl ?_; intro K hK; go_big_quiet_op; go_big_quiet_on) | ((first | refine Mix.lex_skipT rfl rfl rfl (by with_reducible rfl) ?_ | refine Mix.lex_skipF rfl rfl rfl (by with_reducible rfl) ?_ | refine Mix.lex_skipU rfl rfl rfl (by with_reducible rfl) ?_); simp only [Act.put, List.setIfInBounds_toArray, List.set_cons_succ, List.set_cons_zero]) | (refine Mix.lex_part rfl rfl rfl rfl (fun hq => ?_) (fun hq => ?_) <;> (fail_if_success (guard_hyp hq :ₛ true = true)) <;> (fail_if_success (guard_hyp hq :ₛ false = false)) <;> first | (exfalso; cases hq; done) | (exfalso; simp only [decide_eq_true_eq, decide_eq_false_iff_not, beq_iff_eq, beq_eq_false_iff_ne, ne_eq, Int.not_lt, Int.not_le] at hq; omega) | simp only [Act.put, List.setIfInBounds_toArray, List.set_cons_succ, List.set_cons_zero])))
          ((first | refine Mix.lex_goes0 rfl rfl ?_ | refine Mix.lex_goesG rfl rfl rfl (by with_reducible rfl) rfl ?_); intro K hK; go_simp)
          refine (CW.out _ HM0.out).mono ?_
          rintro e u ⟨rfl, r', h1, h2⟩
          have HH := Lib.hid h1
          have HO := Lib.hid h2
          have HG2 : Hid (Only G u0 u) := by rw [Hid, HGq.out]; exact HM0.out.any.trans h2 fun _ _ h => h
          refine ⟨_, rfl, hK _ _ (fun _ => Cl.of HG2.out) ?_⟩
          clear hK K h1 h2
          simp only [Act.put, List.setIfInBounds_toArray, List.set_cons_succ, List.set_cons_zero]
          (repeat' (first | (refine Mix.lex_quiet0 rfl rfl rfl ?_; intro K hK; go_big_quiet_op; go_big_quiet_on) | (refine Mix.lex_quietG rfl rfl rfl (by with_reducible rfl) rfl rfl ?_; intro K hK; go_big_quiet_op; go_big_quiet_on) | ((first | refine Mix.lex_skipT rfl rfl rfl (by with_reducible rfl) ?_ | refine Mix.lex_skipF rfl rfl rfl (by with_reducible rfl) ?_ | refine Mix.lex_skipU rfl rfl rfl (by with_reducible rfl) ?_); simp only [Act.put, List.setIfInBounds_toArray, List.set_cons_succ, List.set_cons_zero]) | (refine Mix.lex_part rfl rfl rfl rfl (fun hq => ?_) (fun hq => ?_) <;> (fail_if_success (guard_hyp hq :ₛ true = true)) <;> (fail_if_success (guard_hyp hq :ₛ false = false)) <;> first | (exfalso; cases hq; done) | (exfalso; simp only [decide_eq_true_eq, decide_eq_false_iff_not, beq_iff_eq, beq_eq_false_iff_ne, ne_eq, Int.not_lt, Int.not_le] at hq; omega) | simp only [Act.put, List.setIfInBounds_toArray, List.set_cons_succ, List.set_cons_zero])))
          refine Mix.lex_nil ?_
          go_wp2_with (first | (refine Mix.wpList_guarded rfl ?_; (repeat' (first | (refine Mix.lex_quiet0 rfl rfl rfl ?_; intro K hK; go_big_quiet_op; go_big_quiet_on) | (refine Mix.lex_quietG rfl rfl rfl (by with_reducible rfl) rfl rfl ?_; intro K hK; go_big_quiet_op; go_big_quiet_on) | ((first | refine Mix.lex_skipT rfl rfl rfl (by with_reducible rfl) ?_ | refine Mix.lex_skipF rfl rfl rfl (by with_reducible rfl) ?_ | refine Mix.lex_skipU rfl rfl rfl (by with_reducible rfl) ?_); simp only [Act.put, List.setIfInBounds_toArray, List.set_cons_succ, List.set_cons_zero]) | (refine Mix.lex_part rfl rfl rfl rfl (fun hq => ?_) (fun hq => ?_) <;> (fail_if_success (guard_hyp hq :ₛ true = true)) <;> (fail_if_success (guard_hyp hq :ₛ false = false)) <;> first | (exfalso; cases hq; done) | (exfalso; simp only [decide_eq_true_eq, decide_eq_false_iff_not, beq_iff_eq, beq_eq_false_iff_ne, ne_eq, Int.not_lt, Int.not_le] at hq; omega) | simp only [Act.put, List.setIfInBounds_toArray, List.set_cons_succ, List.set_cons_zero]))); all_goals (refine Mix.lex_nil ?_)) | (refine Mix.wp_still (by kernel_rfl) (by kernel_rfl) ?_; (repeat' (first | (refine Mix.lex_quiet0 rfl rfl rfl ?_; intro K hK; go_big_quiet_op; go_big_quiet_on) | (refine Mix.lex_quietG rfl rfl rfl (by with_reducible rfl) rfl rfl ?_; intro K hK; go_big_quiet_op; go_big_quiet_on) | ((first | refine Mix.lex_skipT rfl rfl rfl (by with_reducible rfl) ?_ | refine Mix.lex_skipF rfl rfl rfl (by with_reducible rfl) ?_ | refine Mix.lex_skipU rfl rfl rfl (by with_reducible rfl) ?_); simp only [Act.put, List.setIfInBounds_toArray, List.set_cons_succ, List.set_cons_zero]) | (refine Mix.lex_part rfl rfl rfl rfl (fun hq => ?_) (fun hq => ?_) <;> (fail_if_success (guard_hyp hq :ₛ true = true)) <;> (fail_if_success (guard_hyp hq :ₛ false = false)) <;> first | (exfalso; cases hq; done) | (exfalso; simp only [decide_eq_true_eq, decide_eq_false_iff_not, beq_iff_eq, beq_eq_false_iff_ne, ne_eq, Int.not_lt, Int.not_le] at hq; omega) | simp only [Act.put, List.setIfInBounds_toArray, List.set_cons_succ, List.set_cons_zero]))); all_goals (refine Mix.lex_nil ?_)))
          go_ret
          rw [HRun.out]
          exact ⟨rfl, r', HH.out, (X0.out.then_ext HM0.out).any.trans HO.out fun _ _ h => h⟩
        · have HRun : Hid (o.run cmd = (o, 4)) := by
            unfold Hid Ov.run
            rw [HW0.out, HNw.out]
            rw [if_neg (by decide)]; rw [if_neg (by decide)]; rw [if_neg (by decide)]; rw [if_pos rfl]
            rw [HW3.out, HW4.out]
            exact if_neg (fun h => h4 h.2.2)
          have hx : ((w4.length : Int) == 1) = false := by rw [beq_eq_false_iff_ne]; omega
          go_wp2_with (first | (refine Mix.wpList_guarded rfl ?_; (repeat' (first | (refine Mix.lex_quiet0 rfl rfl rfl ?_; intro K hK; go_big_quiet_op; go_big_quiet_on) | (refine Mix.lex_quietG rfl rfl rfl (by with_reducible rfl) rfl rfl ?_; intro K hK; go_big_quiet_op; go_big_quiet_on) | ((first | refine Mix.lex_skipT rfl rfl rfl (by with_reducible rfl) ?_ | refine Mix.lex_skipF rfl rfl rfl (by with_reducible rfl) ?_ | refine Mix.lex_skipU rfl rfl rfl (by with_reducible rfl) ?_); simp only [Act.put, List.setIfInBounds_toArray, List.set_cons_succ, List.set_cons_zero]) | (refine Mix.lex_part rfl rfl rfl rfl (fun hq => ?_) (fun hq => ?_) <;> (fail_if_success (guard_hyp hq :ₛ true = true)) <;> (fail_if_success (guard_hyp hq :ₛ false = false)) <;> first | (exfalso; cases hq; done) | (exfalso; simp only [decide_eq_true_eq, decide_eq_false_iff_not, beq_iff_eq, beq_eq_false_iff_ne, ne_eq, Int.not_lt, Int.not_le] at hq; omega) | simp only [Act.put, List.setIfInBounds_toArray, List.set_cons_succ, List.set_cons_zero]))); all_goals (refine Mix.lex_nil ?_)) | (refine Mix.wp_still (by kernel_rfl) (by kernel_rfl) ?_; (repeat' (first | (refine Mix.lex_quiet0 rfl rfl rfl ?_; intro K hK; go_big_quiet_op; go_big_quiet_on) | (refine Mix.lex_quietG rfl rfl rfl (by with_reducible rfl) rfl rfl ?_; intro K hK; go_big_quiet_op; go_big_quiet_on) | ((first | refine Mix.lex_skipT rfl rfl rfl (by with_reducible rfl) ?_ | refine Mix.lex_skipF rfl rfl rfl (by with_reducible rfl) ?_ | refine Mix.lex_skipU rfl rfl rfl (by with_reducible rfl) ?_); simp only [Act.put, List.setIfInBounds_toArray, List.set_cons_succ, List.set_cons_zero]) | (refine Mix.lex_part rfl rfl rfl rfl (fun hq => ?_) (fun hq => ?_) <;> (fail_if_success (guard_hyp hq :ₛ true = true)) <;> (fail_if_success (guard_hyp hq :ₛ false = false)) <;> first | (exfalso; cases hq; done) | (exfalso; simp only [decide_eq_true_eq, decide_eq_false_iff_not, beq_iff_eq, beq_eq_false_iff_ne, ne_eq, Int.not_lt, Int.not_le] at hq; omega) | simp only [Act.put, List.setIfInBounds_toArray, List.set_cons_succ, List.set_cons_zero]))); all_goals (refine Mix.lex_nil ?_)))
          go_ret
          rw [HRun.out]
          exact OvRes.of_ext H.out rfl (X0.out.then_ext HZ0.out)
      · have HRun : Hid (o.run cmd = (o, 4)) := by
          unfold Hid Ov.run
          rw [HW0.out, HNw.out]
          rw [if_neg (by decide)]; rw [if_neg (by decide)]; rw [if_neg (by decide)]; rw [if_pos rfl]
          rw [HW3.out, HW4.out]
          exact if_neg (fun h => h3 h.2.1)
        have hx : ((w3.length : Int) == 1) = false := by rw [beq_eq_false_iff_ne]; omega
        go_wp2_with (first | (refine Mix.wpList_guarded rfl ?_; (repeat' (first | (refine Mix.lex_quiet0 rfl rfl rfl ?_; intro K hK; go_big_quiet_op; go_big_quiet_on) | (refine Mix.lex_quietG rfl rfl rfl (by with_reducible rfl) rfl rfl ?_; intro K hK; go_big_quiet_op; go_big_quiet_on) | ((first | refine Mix.lex_skipT rfl rfl rfl (by with_reducible rfl) ?_ | refine Mix.lex_skipF rfl rfl rfl (by with_reducible rfl) ?_ | refine Mix.lex_skipU rfl rfl rfl (by with_reducible rfl) ?_); simp only [Act.put, List.setIfInBounds_toArray, List.set_cons_succ, List.set_cons_zero]) | (refine Mix.lex_part rfl rfl rfl rfl (fun hq => ?_) (fun hq => ?_) <;> (fail_if_success (guard_hyp hq :ₛ true = true)) <;> (fail_if_success (guard_hyp hq :ₛ false = false)) <;> first | (exfalso; cases hq; done) | (exfalso; simp only [decide_eq_true_eq, decide_eq_false_iff_not, beq_iff_eq, beq_eq_false_iff_ne, ne_eq, Int.not_lt, Int.not_le] at hq; omega) | simp only [Act.put, List.setIfInBounds_toArray, List.set_cons_succ, List.set_cons_zero]))); all_goals (refine Mix.lex_nil ?_)) | (refine Mix.wp_still (by kernel_rfl) (by kernel_rfl) ?_; (repeat' (first | (refine Mix.lex_quiet0 rfl rfl rfl ?_; intro K hK; go_big_quiet_op; go_big_quiet_on) | (refine Mix.lex_quietG rfl rfl rfl (by with_reducible rfl) rfl rfl ?_; intro K hK; go_big_quiet_op; go_big_quiet_on) | ((first | refine Mix.lex_skipT rfl rfl rfl (by with_reducible rfl) ?_ | refine Mix.lex_skipF rfl rfl rfl (by with_reducible rfl) ?_ | refine Mix.lex_skipU rfl rfl rfl (by with_reducible rfl) ?_); simp only [Act.put, List.setIfInBounds_toArray, List.set_cons_succ, List.set_cons_zero]) | (refine Mix.lex_part rfl rfl rfl rfl (fun hq => ?_) (fun hq => ?_) <;> (fail_if_success (guard_hyp hq :ₛ true = true)) <;> (fail_if_success (guard_hyp hq :ₛ false = false)) <;> first | (exfalso; cases hq; done) | (exfalso; simp only [decide_eq_true_eq, decide_eq_false_iff_not, beq_iff_eq, beq_eq_false_iff_ne, ne_eq, Int.not_lt, Int.not_le] at hq; omega) | simp only [Act.put, List.setIfInBounds_toArray, List.set_cons_succ, List.set_cons_zero]))); all_goals (refine Mix.lex_nil ?_)))
        go_ret
        rw [HRun.out]
        exact OvRes.of_ext H.out rfl (X0.out.then_ext HZ0.out)
    · have HRun : Hid (o.run cmd = (o, 4)) := by
        unfold Hid Ov.run
        rw [HW0.out, HNw.out]
        rw [if_neg (by decide)]; rw [if_neg (by decide)]; rw [if_neg (by decide)]; rw [if_pos rfl]
        exact if_neg (fun h => hn3 h.1)
      have hn4 : ((n : Int) == 5) = false := by rw [beq_eq_false_iff_ne]; omega
      go_wp2_with (first | (refine Mix.wpList_guarded rfl ?_; (repeat' (first | (refine Mix.lex_quiet0 rfl rfl rfl ?_; intro K hK; go_big_quiet_op; go_big_quiet_on) | (refine Mix.lex_quietG rfl rfl rfl (by with_reducible rfl) rfl rfl ?_; intro K hK; go_big_quiet_op; go_big_quiet_on) | ((first | refine Mix.lex_skipT rfl rfl rfl (by with_reducible rfl) ?_ | refine Mix.lex_skipF rfl rfl rfl (by with_reducible rfl) ?_ | refine Mix.lex_skipU rfl rfl rfl (by with_reducible rfl) ?_); simp only [Act.put, List.setIfInBounds_toArray, List.set_cons_succ, List.set_cons_zero]) | (refine Mix.lex_part rfl rfl rfl rfl (fun hq => ?_) (fun hq => ?_) <;> (fail_if_success (guard_hyp hq :ₛ true = true)) <;> (fail_if_success (guard_hyp hq :ₛ false = false)) <;> first | (exfalso; cases hq; done) | (exfalso; simp only [decide_eq_true_eq, decide_eq_false_iff_not, beq_iff_eq, beq_eq_false_iff_ne, ne_eq, Int.not_lt, Int.not_le] at hq; omega) | simp only [Act.put, List.setIfInBounds_toArray, List.set_cons_succ, List.set_cons_zero]))); all_goals (refine Mix.lex_nil ?_)) | (refine Mix.wp_still (by kernel_rfl) (by kernel_rfl) ?_; (repeat' (first | (refine Mix.lex_quiet0 rfl rfl rfl ?_; intro K hK; go_big_quiet_op; go_big_quiet_on) | (refine Mix.lex_quietG rfl rfl rfl (by with_reducible rfl) rfl rfl ?_; intro K hK; go_big_quiet_op; go_big_quiet_on) | ((first | refine Mix.lex_skipT rfl rfl rfl (by with_reducible rfl) ?_ | refine Mix.lex_skipF rfl rfl rfl (by with_reducible rfl) ?_ | refine Mix.lex_skipU rfl rfl rfl (by with_reducible rfl) ?_); simp only [Act.put, List.setIfInBounds_toArray, List.set_cons_succ, List.set_cons_zero]) | (refine Mix.lex_part rfl rfl rfl rfl (fun hq => ?_) (fun hq => ?_) <;> (fail_if_success (guard_hyp hq :ₛ true = true)) <;> (fail_if_success (guard_hyp hq :ₛ false = false)) <;> first | (exfalso; cases hq; done) | (exfalso; simp only [decide_eq_true_eq, decide_eq_false_iff_not, beq_iff_eq, beq_eq_false_iff_ne, ne_eq, Int.not_lt, Int.not_le] at hq; omega) | simp only [Act.put, List.setIfInBounds_toArray, List.set_cons_succ, List.set_cons_zero]))); all_goals (refine Mix.lex_nil ?_)))
      go_ret
      rw [HRun.out]
      exact OvRes.of_ext H.out rfl (X0.out.then_ext HZ0.out)
  by_cases h4 : w0 = kJoin
  · subst h4
    have hcf := HFl.out (by decide)
    clear HFl
    by_cases hn3 : 2 < n
    · obtain ⟨w1, w2, r, rfl⟩ : ∃ w1 w2 r, r1 = w1 :: w2 :: r := by
        have hl := HN.out
        simp only [List.length_cons] at hl
        match r1, hl with
        | w1 :: w2 :: r, _ => exact ⟨w1, w2, r, rfl⟩
        | [], hl => simp at hl <;> omega
        | [_], hl => simp at hl <;> omega
      have d1 := HWc.out 1 w1 rfl
      have HW1 : Hid (wd cmd 1 = w1) := wd_get (by rw [← HWs.out]; rfl)
      have hl1 := HWl.out w1 (by simp)
      have d2 := HWc.out 2 w2 rfl
      have HW2 : Hid (wd cmd 2 = w2) := wd_get (by rw [← HWs.out]; rfl)
      have hl2 := HWl.out w2 (by simp)
      have HRun : Hid (o.run cmd = o.join w1 (w2 :: r)) := by
        unfold Hid Ov.run
        rw [HW0.out, HNw.out]
        rw [if_neg (by decide)]; rw [if_neg (by decide)]; rw [if_neg (by decide)]; rw [if_neg (by decide)]; rw [if_pos rfl]; rw [if_pos hn3, HW1.out, ← HWs.out]; rfl
      have hsl : Hid (∀ v, Ext u0 v → SlR strF v (some ⟨b, 2, none⟩) (n - 2) (w2 :: r)) := fun v hv => by
        have h0 := HR.out.ext hv
        refine ⟨by have := HN.out; simp only [List.length_cons] at this ⊢; omega, fun _ => ?_⟩
        obtain ⟨b', o', he, hb', hc'⟩ := h0.2 (by omega)
        injection he with he
        injection he with e1 e2
        subst e1; subst e2
        refine ⟨b, 2, rfl, hb', fun k x hk j u hu => ?_⟩
        have := hc' (k + 2) x (by simpa using hk) j u hu
        rw [show strF.size = 1 from rfl] at this ⊢
        rw [show 2 + k * 1 + j = 0 + (k + 2) * 1 + j by omega]
        exact this
      have CW : Hid (∀ v, Ext u0 v → Calls Tryd.prog 34 #[pt g, S w1, .slice (some ⟨b, 2, none⟩) (n - 2) (c - 2)] v (OvRes oP v g (o.join w1 (w2 :: r)).1 (errV (o.join w1 (w2 :: r)).2))) := fun v hv => join_c (H.out.ext (X0.out.then_ext hv)) HSm.out (HTx.out HW0.out (by decide)) w1 (by unfold maxLen; omega) (hsl.out v hv) (by omega) (fun x hx => by have := HWl.out x (List.mem_cons_of_mem _ (List.mem_cons_of_mem _ hx)); unfold maxLen; omega)
      go_upto_region 11 with fail
      refine Mix.wp_draw [6] 100 (Cl u0 G) (by kernel_rfl) (by kernel_rfl) (Cl.of ζ.h.drew) ?_
      obtain ⟨μ0, hμ0⟩ : ∃ μ0 : X u0 G, μ0.v = ζ.v.drew := ⟨⟨_, ζ.h.drew⟩, rfl⟩
      have HM0 : Hid (Ext u0 μ0.v) := by rw [hμ0]; exact HZ0.out.drew
      rw [← hμ0]
      clear hμ0
      (repeat' (first | (refine Mix.lex_quiet0 rfl rfl rfl ?_; intro K hK; go_big_quiet_op; go_big_quiet_on) | (refine Mix.lex_quietG rfl rfl rfl (by with_reducible rfl) rfl rfl ?_; intro K hK; go_big_quiet_op; go_big_quiet_on) | ((first | refine Mix.lex_skipT rfl rfl rfl (by with_reducible rfl) ?_ | refine Mix.lex_skipF rfl rfl rfl (by with_reducible rfl) ?_ | refine Mix.lex_skipU rfl rfl rfl (by with_reducible rfl) ?_); simp only [Act.put, List.setIfInBounds_toArray, List.set_cons_succ, List.set_cons_zero]) | (refine Mix.lex_part rfl rfl rfl rfl (fun hq => ?_) (fun hq => ?_) <;> (fail_if_success (guard_hyp hq :ₛ true = true)) <;> (fail_if_success (guard_hyp hq :ₛ false = false)) <;> first | (exfalso; cases hq; done) | (exfalso; simp only [decide_eq_true_eq, decide_eq_false_iff_not, beq_iff_eq, beq_eq_false_iff_ne, ne_eq, Int.not_lt, Int.not_le] at hq; omega) | simp only [Act.put, List.setIfInBounds_toArray, List.set_cons_succ, List.set_cons_zero])))
      ((first | refine Mix.lex_goes0 rfl rfl ?_ | refine Mix.lex_goesG rfl rfl rfl (by with_reducible rfl) rfl ?_); intro K hK; go_simp)
      refine (CW.out _ HM0.out).mono ?_
      rintro e u ⟨rfl, r', h1, h2⟩
      have HH := Lib.hid h1
      have HO := Lib.hid h2
      have HG2 : Hid (Only G u0 u) := by rw [Hid, HGq.out]; exact HM0.out.any.trans h2 fun _ _ h => h
      refine ⟨_, rfl, hK _ _ (fun _ => Cl.of HG2.out) ?_⟩
      clear hK K h1 h2
      simp only [Act.put, List.setIfInBounds_toArray, List.set_cons_succ, List.set_cons_zero]
      (repeat' (first | (refine Mix.lex_quiet0 rfl rfl rfl ?_; intro K hK; go_big_quiet_op; go_big_quiet_on) | (refine Mix.lex_quietG rfl rfl rfl (by with_reducible rfl) rfl rfl ?_; intro K hK; go_big_quiet_op; go_big_quiet_on) | ((first | refine Mix.lex_skipT rfl rfl rfl (by with_reducible rfl) ?_ | refine Mix.lex_skipF rfl rfl rfl (by with_reducible rfl) ?_ | refine Mix.lex_skipU rfl rfl rfl (by with_reducible rfl) ?_); simp only [Act.put, List.setIfInBounds_toArray, List.set_cons_succ, List.set_cons_zero]) | (refine Mix.lex_part rfl rfl rfl rfl (fun hq => ?_) (fun hq => ?_) <;> (fail_if_success (guard_hyp hq :ₛ true = true)) <;> (fail_if_success (guard_hyp hq :ₛ false = false)) <;> first | (exfalso; cases hq; done) | (exfalso; simp only [decide_eq_true_eq, decide_eq_false_iff_not, beq_iff_eq, beq_eq_false_iff_ne, ne_eq, Int.not_lt, Int.not_le] at hq; omega) | simp only [Act.put, List.setIfInBounds_toArray, List.set_cons_succ, List.set_cons_zero])))
      refine Mix.lex_nil ?_
      go_wp2_with (first | (refine Mix.wpList_guarded rfl ?_; (repeat' (first | (refine Mix.lex_quiet0 rfl rfl rfl ?_; intro K hK; go_big_quiet_op; go_big_quiet_on) | (refine Mix.lex_quietG rfl rfl rfl (by with_reducible rfl) rfl rfl ?_; intro K hK; go_big_quiet_op; go_big_quiet_on) | ((first | refine Mix.lex_skipT rfl rfl rfl (by with_reducible rfl) ?_ | refine Mix.lex_skipF rfl rfl rfl (by with_reducible rfl) ?_ | refine Mix.lex_skipU rfl rfl rfl (by with_reducible rfl) ?_); simp only [Act.put, List.setIfInBounds_toArray, List.set_cons_succ, List.set_cons_zero]) | (refine Mix.lex_part rfl rfl rfl rfl (fun hq => ?_) (fun hq => ?_) <;> (fail_if_success (guard_hyp hq :ₛ true = true)) <;> (fail_if_success (guard_hyp hq :ₛ false = false)) <;> first | (exfalso; cases hq; done) | (exfalso; simp only [decide_eq_true_eq, decide_eq_false_iff_not, beq_iff_eq, beq_eq_false_iff_ne, ne_eq, Int.not_lt, Int.not_le] at hq; omega) | simp only [Act.put, List.setIfInBounds_toArray, List.set_cons_succ, List.set_cons_zero]))); all_goals (refine Mix.lex_nil ?_)) | (refine Mix.wp_still (by kernel_rfl) (by kernel_rfl) ?_; (repeat' (first | (refine Mix.lex_quiet0 rfl rfl rfl ?_; intro K hK; go_big_quiet_op; go_big_quiet_on) | (refine Mix.lex_quietG rfl rfl rfl (by with_reducible rfl) rfl rfl ?_; intro K hK; go_big_quiet_op; go_big_quiet_on) | ((first | refine Mix.lex_skipT rfl rfl rfl (by with_reducible rfl) ?_ | refine Mix.lex_skipF rfl rfl rfl (by with_reducible rfl) ?_ | refine Mix.lex_skipU rfl rfl rfl (by with_reducible rfl) ?_); simp only [Act.put, List.setIfInBounds_toArray, List.set_cons_succ, List.set_cons_zero]) | (refine Mix.lex_part rfl rfl rfl rfl (fun hq => ?_) (fun hq => ?_) <;> (fail_if_success (guard_hyp hq :ₛ true = true)) <;> (fail_if_success (guard_hyp hq :ₛ false = false)) <;> first | (exfalso; cases hq; done) | (exfalso; simp only [decide_eq_true_eq, decide_eq_false_iff_not, beq_iff_eq, beq_eq_false_iff_ne, ne_eq, Int.not_lt, Int.not_le] at hq; omega) | simp only [Act.put, List.setIfInBounds_toArray, List.set_cons_succ, List.set_cons_zero]))); all_goals (refine Mix.lex_nil ?_)))
      go_ret
      rw [HRun.out]
      exact ⟨rfl, r', HH.out, (X0.out.then_ext HM0.out).any.trans HO.out fun _ _ h => h⟩
    · have HRun : Hid (o.run cmd = (o, 4)) := by
        unfold Hid Ov.run
        rw [HW0.out, HNw.out]
        rw [if_neg (by decide)]; rw [if_neg (by decide)]; rw [if_neg (by decide)]; rw [if_neg (by decide)]; rw [if_pos rfl]; rw [if_neg hn3]
      go_wp2_with (first | (refine Mix.wpList_guarded rfl ?_; (repeat' (first | (refine Mix.lex_quiet0 rfl rfl rfl ?_; intro K hK; go_big_quiet_op; go_big_quiet_on) | (refine Mix.lex_quietG rfl rfl rfl (by with_reducible rfl) rfl rfl ?_; intro K hK; go_big_quiet_op; go_big_quiet_on) | ((first | refine Mix.lex_skipT rfl rfl rfl (by with_reducible rfl) ?_ | refine Mix.lex_skipF rfl rfl rfl (by with_reducible rfl) ?_ | refine Mix.lex_skipU rfl rfl rfl (by with_reducible rfl) ?_); simp only [Act.put, List.setIfInBounds_toArray, List.set_cons_succ, List.set_cons_zero]) | (refine Mix.lex_part rfl rfl rfl rfl (fun hq => ?_) (fun hq => ?_) <;> (fail_if_success (guard_hyp hq :ₛ true = true)) <;> (fail_if_success (guard_hyp hq :ₛ false = false)) <;> first | (exfalso; cases hq; done) | (exfalso; simp only [decide_eq_true_eq, decide_eq_false_iff_not, beq_iff_eq, beq_eq_false_iff_ne, ne_eq, Int.not_lt, Int.not_le] at hq; omega) | simp only [Act.put, List.setIfInBounds_toArray, List.set_cons_succ, List.set_cons_zero]))); all_goals (refine Mix.lex_nil ?_)) | (refine Mix.wp_still (by kernel_rfl) (by kernel_rfl) ?_; (repeat' (first | (refine Mix.lex_quiet0 rfl rfl rfl ?_; intro K hK; go_big_quiet_op; go_big_quiet_on) | (refine Mix.lex_quietG rfl rfl rfl (by with_reducible rfl) rfl rfl ?_; intro K hK; go_big_quiet_op; go_big_quiet_on) | ((first | refine Mix.lex_skipT rfl rfl rfl (by with_reducible rfl) ?_ | refine Mix.lex_skipF rfl rfl rfl (by with_reducible rfl) ?_ | refine Mix.lex_skipU rfl rfl rfl (by with_reducible rfl) ?_); simp only [Act.put, List.setIfInBounds_toArray, List.set_cons_succ, List.set_cons_zero]) | (refine Mix.lex_part rfl rfl rfl rfl (fun hq => ?_) (fun hq => ?_) <;> (fail_if_success (guard_hyp hq :ₛ true = true)) <;> (fail_if_success (guard_hyp hq :ₛ false = false)) <;> first | (exfalso; cases hq; done) | (exfalso; simp only [decide_eq_true_eq, decide_eq_false_iff_not, beq_iff_eq, beq_eq_false_iff_ne, ne_eq, Int.not_lt, Int.not_le] at hq; omega) | simp only [Act.put, List.setIfInBounds_toArray, List.set_cons_succ, List.set_cons_zero]))); all_goals (refine Mix.lex_nil ?_)))
      go_ret
      rw [HRun.out]
      exact OvRes.of_ext H.out rfl (X0.out.then_ext HZ0.out)
  by_cases h5 : w0 = kNeed
  · subst h5
    have hcf := HFl.out (by decide)
    clear HFl
    by_cases hn3 : n = 2
    · subst hn3
      obtain ⟨w1, r, rfl⟩ : ∃ w1 r, r1 = w1 :: r := by
        have hl := HN.out
        simp only [List.length_cons] at hl
        match r1, hl with
        | w1 :: r, _ => exact ⟨w1, r, rfl⟩
        | [], hl => simp at hl <;> omega
      have d1 := HWc.out 1 w1 rfl
      have HW1 : Hid (wd cmd 1 = w1) := wd_get (by rw [← HWs.out]; rfl)
      have hl1 := HWl.out w1 (by simp)
      have HRun : Hid (o.run cmd = (o, o.need w1)) := by
        unfold Hid Ov.run
        rw [HW0.out, HNw.out]
        rw [if_neg (by decide)]; rw [if_neg (by decide)]; rw [if_neg (by decide)]; rw [if_neg (by decide)]; rw [if_neg (by decide)]; rw [if_pos rfl]; rw [if_pos rfl, HW1.out]
      have CW : Hid (∀ v, Ext u0 v → Calls Tryd.prog 35 #[pt g, S w1] v fun e w' => e = .returned (errV (o.need w1)) ∧ Ext v w') := fun v hv => need_c (H.out.ext (X0.out.then_ext hv)) HSm.out w1 (by unfold maxLen; omega)
      go_wp2_with (first | (refine Mix.wpList_guarded rfl ?_; (repeat' (first | (refine Mix.lex_quiet0 rfl rfl rfl ?_; intro K hK; go_big_quiet_op; go_big_quiet_on) | (refine Mix.lex_quietG rfl rfl rfl (by with_reducible rfl) rfl rfl ?_; intro K hK; go_big_quiet_op; go_big_quiet_on) | ((first | refine Mix.lex_skipT rfl rfl rfl (by with_reducible rfl) ?_ | refine Mix.lex_skipF rfl rfl rfl (by with_reducible rfl) ?_ | refine Mix.lex_skipU rfl rfl rfl (by with_reducible rfl) ?_); simp only [Act.put, List.setIfInBounds_toArray, List.set_cons_succ, List.set_cons_zero]) | (refine Mix.lex_part rfl rfl rfl rfl (fun hq => ?_) (fun hq => ?_) <;> (fail_if_success (guard_hyp hq :ₛ true = true)) <;> (fail_if_success (guard_hyp hq :ₛ false = false)) <;> first | (exfalso; cases hq; done) | (exfalso; simp only [decide_eq_true_eq, decide_eq_false_iff_not, beq_iff_eq, beq_eq_false_iff_ne, ne_eq, Int.not_lt, Int.not_le] at hq; omega) | simp only [Act.put, List.setIfInBounds_toArray, List.set_cons_succ, List.set_cons_zero]))); all_goals (refine Mix.lex_nil ?_)) | (refine Mix.wp_still (by kernel_rfl) (by kernel_rfl) ?_; (repeat' (first | (refine Mix.lex_quiet0 rfl rfl rfl ?_; intro K hK; go_big_quiet_op; go_big_quiet_on) | (refine Mix.lex_quietG rfl rfl rfl (by with_reducible rfl) rfl rfl ?_; intro K hK; go_big_quiet_op; go_big_quiet_on) | ((first | refine Mix.lex_skipT rfl rfl rfl (by with_reducible rfl) ?_ | refine Mix.lex_skipF rfl rfl rfl (by with_reducible rfl) ?_ | refine Mix.lex_skipU rfl rfl rfl (by with_reducible rfl) ?_); simp only [Act.put, List.setIfInBounds_toArray, List.set_cons_succ, List.set_cons_zero]) | (refine Mix.lex_part rfl rfl rfl rfl (fun hq => ?_) (fun hq => ?_) <;> (fail_if_success (guard_hyp hq :ₛ true = true)) <;> (fail_if_success (guard_hyp hq :ₛ false = false)) <;> first | (exfalso; cases hq; done) | (exfalso; simp only [decide_eq_true_eq, decide_eq_false_iff_not, beq_iff_eq, beq_eq_false_iff_ne, ne_eq, Int.not_lt, Int.not_le] at hq; omega) | simp only [Act.put, List.setIfInBounds_toArray, List.set_cons_succ, List.set_cons_zero]))); all_goals (refine Mix.lex_nil ?_)))
      refine (CW.out _ HZ0.out).mono ?_
      rintro e u ⟨rfl, hu⟩
      have HU := Lib.hid (HZ0.out.then_ext hu)
      clear hu
      go_wp2_with (first | (refine Mix.wpList_guarded rfl ?_; (repeat' (first | (refine Mix.lex_quiet0 rfl rfl rfl ?_; intro K hK; go_big_quiet_op; go_big_quiet_on) | (refine Mix.lex_quietG rfl rfl rfl (by with_reducible rfl) rfl rfl ?_; intro K hK; go_big_quiet_op; go_big_quiet_on) | ((first | refine Mix.lex_skipT rfl rfl rfl (by with_reducible rfl) ?_ | refine Mix.lex_skipF rfl rfl rfl (by with_reducible rfl) ?_ | refine Mix.lex_skipU rfl rfl rfl (by with_reducible rfl) ?_); simp only [Act.put, List.setIfInBounds_toArray, List.set_cons_succ, List.set_cons_zero]) | (refine Mix.lex_part rfl rfl rfl rfl (fun hq => ?_) (fun hq => ?_) <;> (fail_if_success (guard_hyp hq :ₛ true = true)) <;> (fail_if_success (guard_hyp hq :ₛ false = false)) <;> first | (exfalso; cases hq; done) | (exfalso; simp only [decide_eq_true_eq, decide_eq_false_iff_not, beq_iff_eq, beq_eq_false_iff_ne, ne_eq, Int.not_lt, Int.not_le] at hq; omega) | simp only [Act.put, List.setIfInBounds_toArray, List.set_cons_succ, List.set_cons_zero]))); all_goals (refine Mix.lex_nil ?_)) | (refine Mix.wp_still (by kernel_rfl) (by kernel_rfl) ?_; (repeat' (first | (refine Mix.lex_quiet0 rfl rfl rfl ?_; intro K hK; go_big_quiet_op; go_big_quiet_on) | (refine Mix.lex_quietG rfl rfl rfl (by with_reducible rfl) rfl rfl ?_; intro K hK; go_big_quiet_op; go_big_quiet_on) | ((first | refine Mix.lex_skipT rfl rfl rfl (by with_reducible rfl) ?_ | refine Mix.lex_skipF rfl rfl rfl (by with_reducible rfl) ?_ | refine Mix.lex_skipU rfl rfl rfl (by with_reducible rfl) ?_); simp only [Act.put, List.setIfInBounds_toArray, List.set_cons_succ, List.set_cons_zero]) | (refine Mix.lex_part rfl rfl rfl rfl (fun hq => ?_) (fun hq => ?_) <;> (fail_if_success (guard_hyp hq :ₛ true = true)) <;> (fail_if_success (guard_hyp hq :ₛ false = false)) <;> first | (exfalso; cases hq; done) | (exfalso; simp only [decide_eq_true_eq, decide_eq_false_iff_not, beq_iff_eq, beq_eq_false_iff_ne, ne_eq, Int.not_lt, Int.not_le] at hq; omega) | simp only [Act.put, List.setIfInBounds_toArray, List.set_cons_succ, List.set_cons_zero]))); all_goals (refine Mix.lex_nil ?_)))
      go_ret
      rw [HRun.out]
      exact OvRes.of_ext H.out rfl (X0.out.then_ext HU.out)
    · have HRun : Hid (o.run cmd = (o, 4)) := by
        unfold Hid Ov.run
        rw [HW0.out, HNw.out]
        rw [if_neg (by decide)]; rw [if_neg (by decide)]; rw [if_neg (by decide)]; rw [if_neg (by decide)]; rw [if_neg (by decide)]; rw [if_pos rfl]; rw [if_neg hn3]
      have hn4 : ((n : Int) == 2) = false := by rw [beq_eq_false_iff_ne]; omega
      go_wp2_with (first | (refine Mix.wpList_guarded rfl ?_; (repeat' (first | (refine Mix.lex_quiet0 rfl rfl rfl ?_; intro K hK; go_big_quiet_op; go_big_quiet_on) | (refine Mix.lex_quietG rfl rfl rfl (by with_reducible rfl) rfl rfl ?_; intro K hK; go_big_quiet_op; go_big_quiet_on) | ((first | refine Mix.lex_skipT rfl rfl rfl (by with_reducible rfl) ?_ | refine Mix.lex_skipF rfl rfl rfl (by with_reducible rfl) ?_ | refine Mix.lex_skipU rfl rfl rfl (by with_reducible rfl) ?_); simp only [Act.put, List.setIfInBounds_toArray, List.set_cons_succ, List.set_cons_zero]) | (refine Mix.lex_part rfl rfl rfl rfl (fun hq => ?_) (fun hq => ?_) <;> (fail_if_success (guard_hyp hq :ₛ true = true)) <;> (fail_if_success (guard_hyp hq :ₛ false = false)) <;> first | (exfalso; cases hq; done) | (exfalso; simp only [decide_eq_true_eq, decide_eq_false_iff_not, beq_iff_eq, beq_eq_false_iff_ne, ne_eq, Int.not_lt, Int.not_le] at hq; omega) | simp only [Act.put, List.setIfInBounds_toArray, List.set_cons_succ, List.set_cons_zero]))); all_goals (refine Mix.lex_nil ?_)) | (refine Mix.wp_still (by kernel_rfl) (by kernel_rfl) ?_; (repeat' (first | (refine Mix.lex_quiet0 rfl rfl rfl ?_; intro K hK; go_big_quiet_op; go_big_quiet_on) | (refine Mix.lex_quietG rfl rfl rfl (by with_reducible rfl) rfl rfl ?_; intro K hK; go_big_quiet_op; go_big_quiet_on) | ((first | refine Mix.lex_skipT rfl rfl rfl (by with_reducible rfl) ?_ | refine Mix.lex_skipF rfl rfl rfl (by with_reducible rfl) ?_ | refine Mix.lex_skipU rfl rfl rfl (by with_reducible rfl) ?_); simp only [Act.put, List.setIfInBounds_toArray, List.set_cons_succ, List.set_cons_zero]) | (refine Mix.lex_part rfl rfl rfl rfl (fun hq => ?_) (fun hq => ?_) <;> (fail_if_success (guard_hyp hq :ₛ true = true)) <;> (fail_if_success (guard_hyp hq :ₛ false = false)) <;> first | (exfalso; cases hq; done) | (exfalso; simp only [decide_eq_true_eq, decide_eq_false_iff_not, beq_iff_eq, beq_eq_false_iff_ne, ne_eq, Int.not_lt, Int.not_le] at hq; omega) | simp only [Act.put, List.setIfInBounds_toArray, List.set_cons_succ, List.set_cons_zero]))); all_goals (refine Mix.lex_nil ?_)))
      go_ret
      rw [HRun.out]
      exact OvRes.of_ext H.out rfl (X0.out.then_ext HZ0.out)
  have q0 : (w0 == kPut) = false := by simpa using h0
  have q1 : (w0 == kCopy) = false := by simpa using h1
  have q2 : (w0 == kTurn) = false := by simpa using h2
  have q3 : (w0 == kSwap) = false := by simpa using h3
  have q4 : (w0 == kJoin) = false := by simpa using h4
  have q5 : (w0 == kNeed) = false := by simpa using h5
  have HRun : Hid (o.run cmd = if cmd = kFail then (o, 7) else (o, 4)) := by
    unfold Hid Ov.run
    rw [HW0.out, if_neg h0, if_neg h1, if_neg h2, if_neg h3, if_neg h4, if_neg h5]
  clear h0 h1 h2 h3 h4 h5 HFl
  obtain ⟨f, hf⟩ : ∃ f, (cmd == kFail) = f := ⟨_, rfl⟩
  have HRun2 : Hid (o.run cmd = (o, if f then 7 else 4)) := by
    rw [Hid, HRun.out]
    cases f with
    | true => rw [if_pos (by simpa using hf)]; rfl
    | false => rw [if_neg (by simpa using hf)]; rfl
  clear HRun
  cases f <;>
  · go_wp2_with (first | (refine Mix.wpList_guarded rfl ?_; (repeat' (first | (refine Mix.lex_quiet0 rfl rfl rfl ?_; intro K hK; go_big_quiet_op; go_big_quiet_on) | (refine Mix.lex_quietG rfl rfl rfl (by with_reducible rfl) rfl rfl ?_; intro K hK; go_big_quiet_op; go_big_quiet_on) | ((first | refine Mix.lex_skipT rfl rfl rfl (by with_reducible rfl) ?_ | refine Mix.lex_skipF rfl rfl rfl (by with_reducible rfl) ?_ | refine Mix.lex_skipU rfl rfl rfl (by with_reducible rfl) ?_); simp only [Act.put, List.setIfInBounds_toArray, List.set_cons_succ, List.set_cons_zero]) | (refine Mix.lex_part rfl rfl rfl rfl (fun hq => ?_) (fun hq => ?_) <;> (fail_if_success (guard_hyp hq :ₛ true = true)) <;> (fail_if_success (guard_hyp hq :ₛ false = false)) <;> first | (exfalso; cases hq; done) | (exfalso; simp only [decide_eq_true_eq, decide_eq_false_iff_not, beq_iff_eq, beq_eq_false_iff_ne, ne_eq, Int.not_lt, Int.not_le] at hq; omega) | simp only [Act.put, List.setIfInBounds_toArray, List.set_cons_succ, List.set_cons_zero]))); all_goals (refine Mix.lex_nil ?_)) | (refine Mix.wp_still (by kernel_rfl) (by kernel_rfl) ?_; (repeat' (first | (refine Mix.lex_quiet0 rfl rfl rfl ?_; intro K hK; go_big_quiet_op; go_big_quiet_on) | (refine Mix.lex_quietG rfl rfl rfl (by with_reducible rfl) rfl rfl ?_; intro K hK; go_big_quiet_op; go_big_quiet_on) | ((first | refine Mix.lex_skipT rfl rfl rfl (by with_reducible rfl) ?_ | refine Mix.lex_skipF rfl rfl rfl (by with_reducible rfl) ?_ | refine Mix.lex_skipU rfl rfl rfl (by with_reducible rfl) ?_); simp only [Act.put, List.setIfInBounds_toArray, List.set_cons_succ, List.set_cons_zero]) | (refine Mix.lex_part rfl rfl rfl rfl (fun hq => ?_) (fun hq => ?_) <;> (fail_if_success (guard_hyp hq :ₛ true = true)) <;> (fail_if_success (guard_hyp hq :ₛ false = false)) <;> first | (exfalso; cases hq; done) | (exfalso; simp only [decide_eq_true_eq, decide_eq_false_iff_not, beq_iff_eq, beq_eq_false_iff_ne, ne_eq, Int.not_lt, Int.not_le] at hq; omega) | simp only [Act.put, List.setIfInBounds_toArray, List.set_cons_succ, List.set_cons_zero]))); all_goals (refine Mix.lex_nil ?_)))
    go_ret
    rw [HRun2.out]
    exact OvRes.of_ext H.out rfl (X0.out.then_ext HZ0.out)
theorem Run_c {w : World} (hm : Ml w) {g : Nat} {r : OvR} {o : Ov} (h : OvAt oP w g r o) (hs : o.Small) (ht : o.Tx) (cmd : Str) (hc : cmd.length ≤ 1000) :
    Calls Tryd.prog 15 #[pt g, S cmd] w (OvRes oP w g (o.run cmd).1 (errV (o.run cmd).2)) :=
  Run_c' cmd hm h hs (fun k => by have := Ov.rd_len ht k; unfold maxLen; omega) (.inr ht) hc
end Go.Proofs.YtnplipljfmnjgaaDoor
