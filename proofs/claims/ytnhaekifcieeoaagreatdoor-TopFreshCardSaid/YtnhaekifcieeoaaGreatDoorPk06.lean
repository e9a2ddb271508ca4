/- Put together: Rec4, Grp, Rec5, RcM, SameT, RcS, Flt, Own3. -/
import Derived.Test.YtnhaekifcieeoaaGreatDoorPk05
import Derived.Test.YtnhaekifcieeoaaGreatDoorPk01
import Derived.Test.YtnhaekifcieeoaaGreatDoorProg
import Derived.Test.YtnhaekifcieeoaaGreatDoorPk02
import Derived.Test.YtnhaekifcieeoaaGreatDoorPkS
import Derived.Test.YtnhaekifcieeoaaGreatDoorPk03
namespace Go.Proofs.YtnhaekifcieeoaaGreatDoor
open Go Go.RowKit
theorem splB_words (c : UInt8) : ∀ (s : Str), ∀ x ∈ splB c s, x.length ≤ s.length
  | [], x, h => by simp [splB] at h; subst h; simp
  | y :: s, x, h => by
    have ih := splB_words c s
    rw [splB_app] at h
    split at h
    · rcases List.mem_cons.1 h with rfl | h
      · simp
      · have := ih x h; simp; omega
    · cases hs : splB c s with
      | nil => exact absurd hs (splB_ne c s)
      | cons a l =>
        rw [hs] at h ih
        rcases List.mem_cons.1 h with rfl | h
        · have := ih a List.mem_cons_self; simp; omega
        · have := ih x (List.mem_cons_of_mem _ h); simp; omega
theorem splB_fail : splB 32 kFail = [kFail] := by decide
theorem wd_get {cmd : Str} {i : Nat} {x : Str} (h : (splB 32 cmd)[i]? = some x) : wd cmd i = x := by unfold wd; rw [List.getD_eq_getElem?_getD, h]; rfl
theorem rev_len (s : Str) : s.reverse.length ≤ s.length := by simp
theorem sw_len (x y s : Str) : (sw x y s).length ≤ s.length := by simp [sw]
set_option maxRecDepth 100000 in
set_option maxHeartbeats 4000000 in
theorem Run_c' (cmd : Str) {w : World} (hm : Ml w) {g : Nat} {r : OvR} {o : Ov} (h : OvAt oP w g r o) (hs : o.Small) (hrd : ∀ k, (o.rd k).length ≤ maxLen) (ht : wd cmd 0 = kTurn ∨ o.Tx) (hc : cmd.length ≤ 1000) :
    Calls Tryz.prog 106 #[pt g, S cmd] w (OvRes oP w g (o.run cmd).1 (errV (o.run cmd).2)) := by
  have HSp := Lib.hid (Split_c cmd (by omega) 32 hm)
  have HM := Lib.hid hm
  have H := Lib.hid h
  have HSm := Lib.hid hs
  have HTx : Hid (∀ {x : Str}, wd cmd 0 = x → x ≠ kTurn → o.Tx) := fun h1 h2 => ht.resolve_left (fun h3 => h2 (h1.symm.trans h3))
  have HRl := Lib.hid hrd
  clear hrd
  have hgw := h.cs.lt
  obtain ⟨ws, hws⟩ : ∃ ws, ws = splB 32 cmd := ⟨_, rfl⟩
  have hwl : ∀ x ∈ ws, x.length ≤ 1000 := fun x hx => by rw [hws] at hx; have := splB_words 32 cmd x hx; omega
  have hne : ws ≠ [] := by rw [hws]; exact splB_ne _ _
  have hn1 : 1 ≤ ws.length := by cases ws with | nil => exact absurd rfl hne | cons _ _ => simp
  have hn2 : ws.length ≤ 1001 := by rw [hws]; have := splB_le 32 cmd; omega
  rw [← hws] at HSp
  have HWs := Lib.hid hws
  have HWl := Lib.hid hwl
  clear hm h hs ht hws hwl hne
  go_enter Tryz.func106, Tryz.ntmps106
  go_wp2_with fail
  refine (HSp.out).mono ?_; rintro e uu ⟨A, c, rfl, hf⟩; obtain ⟨ξ1, hnew⟩ : ∃ ξ : X w No, ξ.v = uu := ⟨⟨uu, (X.here w No).h.then_ext hf.ext⟩, rfl⟩; subst hnew; have Hξ1 := Lib.hid hf.ext; have F1 := Lib.hid hf; clear hf
  clear HSp
  obtain ⟨b, rest, rfl, _, _, _, hnc, hcm⟩ := own_block F1.out.own hn1 (by decide)
  have hbn := F1.out.new b rfl
  have hrow := F1.out.row (by decide)
  obtain ⟨n, hn⟩ : ∃ n, n = ws.length := ⟨_, rfl⟩
  go_upto_region 2 with fail
  rw [← hn] at hrow hn1 hn2 hnc ⊢
  obtain ⟨p, hp⟩ : ∃ p, p = ξ1.v.heap.size := ⟨_, rfl⟩
  obtain ⟨u0, hu0⟩ : ∃ u, u = ξ1.v.alloc (.cells #[.slice (some ⟨b, 0, none⟩) n c] 27) := ⟨_, rfl⟩
  have HP : Hid (Cs u0 p 27 #[.slice (some ⟨b, 0, none⟩) n c]) := by rw [hu0, hp]; exact Cs.new _ _ _
  have X0 : Hid (Ext w u0) := by rw [hu0]; exact ξ1.h.alloc _
  have HR : Hid (SlR strF u0 (some ⟨b, 0, none⟩) n ws) := by rw [hu0]; exact hrow.ext ((Only.refl No _).alloc _)
  have hpg : p ≠ g := by have := ξ1.h.size; omega
  have hbg : b ≠ g := by omega
  rw [← hu0, ← hp]
  have HN := Lib.hid hn
  clear hu0 hp hn hrow hbn F1 Hξ1
  obtain ⟨G, hG⟩ : ∃ G : Nat → Prop, G = fun b => b = g := ⟨_, rfl⟩
  have c0 : ∀ ξ : X u0 G, ξ.v.cell? ⟨p, 0, none⟩ = some (.slice (some ⟨b, 0, none⟩) n c) := HP.out.x (by rw [hG]; exact hpg) 0
  have HWc : Hid (∀ k s, ws[k]? = some s → ∀ ξ : X u0 G, ξ.v.cell? ⟨b, k, none⟩ = some (S s)) := fun k s hk ξ => by
    have hkn : k < n := by rw [HN.out]; exact (List.getElem?_eq_some_iff.1 hk).1
    obtain ⟨b', o', z, he, hz, hc'⟩ := strs_get HR.out hkn
    injection he with he
    injection he with e1 e2
    subst e1; subst e2
    rw [hk] at hz
    injection hz with hz
    subst hz
    have := hc' (X.here u0 No)
    rw [Nat.zero_add] at this
    have hlt := World.block_lt_of_cell? _ _ this
    exact (ξ.h.cell (p := ⟨b, k, none⟩) hlt (by rw [hG]; exact hbg)).trans this
  obtain ⟨ζ, hζ⟩ : ∃ ζ : X u0 G, ζ.v = u0 := ⟨X.here _ _, rfl⟩
  rw [← hζ]
  have HZ : Hid (∀ v, Ext ζ.v v → Ext u0 v) := fun v hv => by rw [← hζ]; exact hv
  have HZ0 : Hid (Ext u0 ζ.v) := by rw [hζ]; exact Only.refl _ _
  have HGq := Lib.hid hG
  clear hζ hpg hbg hG
  obtain ⟨w0, r1, rfl⟩ : ∃ w0 r1, ws = w0 :: r1 := by
    cases ws with
    | nil => rw [HN.out] at hn1; simp at hn1
    | cons w0 r1 => exact ⟨w0, r1, rfl⟩
  have d0 := HWc.out 0 w0 rfl
  have HW0 : Hid (wd cmd 0 = w0) := wd_get (by rw [← HWs.out]; rfl)
  have HNw : Hid (nw cmd = n) := by rw [Hid, nw, ← HWs.out, ← HN.out]
  have HFl : Hid (w0 ≠ kFail → (cmd == kFail) = false) := fun h => by
    rw [beq_eq_false_iff_ne]
    rintro rfl
    have := HWs.out
    rw [splB_fail] at this
    injection this with this
    exact h this
  by_cases h0 : w0 = kPut
  · subst h0
    have hcf := HFl.out (by decide)
    clear HFl
    by_cases hn3 : 2 < n
    · obtain ⟨w1, w2, r, rfl⟩ : ∃ w1 w2 r, r1 = w1 :: w2 :: r := by
        have hl := HN.out
        simp only [List.length_cons] at hl
        match r1, hl with
        | w1 :: w2 :: r, _ => exact ⟨w1, w2, r, rfl⟩
        | [], hl => simp at hl <;> omega
        | [_], hl => simp at hl <;> omega
      have d1 := HWc.out 1 w1 rfl
      have HW1 : Hid (wd cmd 1 = w1) := wd_get (by rw [← HWs.out]; rfl)
      have hl1 := HWl.out w1 (by simp)
      have d2 := HWc.out 2 w2 rfl
      have HW2 : Hid (wd cmd 2 = w2) := wd_get (by rw [← HWs.out]; rfl)
      have hl2 := HWl.out w2 (by simp)
      have HRun : Hid (o.run cmd = (o.wr w1 (cmdRest cmd), o.wrF w1 (cmdRest cmd))) := by
        unfold Hid Ov.run
        rw [HW0.out, HNw.out]
        rw [if_pos rfl]; rw [if_pos hn3, HW1.out]
      have hrl : (cmdRest cmd).length ≤ maxLen := by unfold cmdRest maxLen; rw [List.length_drop]; omega
      have CS : Hid (∀ v, Ext u0 v → Calls Tryz.prog 134 #[S cmd, S [32], .int .i64 3] v fun e w' => ∃ A' c', e = .returned (.slice A' 3 c') ∧ SlR strF w' A' 3 [kPut, w1, cmdRest cmd] ∧ Ext v w') := fun v hv => by
        have := SplitN_c (by omega) 32 HWs.out.symm (HM.out.ext (X0.out.then_ext hv))
        rw [show cmdRest cmd = cmd.drop (List.length kPut + List.length w1 + 2) by unfold cmdRest; rw [HW0.out, HW1.out]]
        exact this
      have CW : Hid (∀ v, Ext u0 v → Calls Tryz.prog 133 #[pt g, S w1, S (cmdRest cmd)] v (OvRes oP v g (o.wr w1 (cmdRest cmd)) (errV (o.wrF w1 (cmdRest cmd))))) := fun v hv => Write_ov (H.out.ext (X0.out.then_ext hv)) HSm.out w1 (cmdRest cmd) (by unfold maxLen; omega) hrl
      go_upto_region 3 with fail
      refine Mix.wp_draw [5, 7, 8] 100 (Cl u0 G) (by kernel_rfl) (by kernel_rfl) (Cl.of ζ.h.drew) ?_
      obtain ⟨μ0, hμ0⟩ : ∃ μ0 : X u0 G, μ0.v = ζ.v.drew := ⟨⟨_, ζ.h.drew⟩, rfl⟩
      have HM0 : Hid (Ext u0 μ0.v) := by rw [hμ0]; exact HZ0.out.drew
      rw [← hμ0]
      clear hμ0
      (repeat' (refine Mix.lex_quiet0 rfl rfl rfl ?_; intro K hK; go_big_quiet_op; go_big_quiet_on))
      ((first | refine Mix.lex_goes0 rfl rfl ?_ | refine Mix.lex_goesG rfl rfl rfl (by with_reducible rfl) rfl ?_); intro K hK; go_simp)
      refine (CS.out _ HM0.out).mono ?_
      rintro e u1 ⟨A', c', rfl, hsl, hx⟩
      obtain ⟨b', o', z, rfl, hz, hcz⟩ := strs_get hsl (k := 2) (by omega)
      obtain rfl : z = cmdRest cmd := by injection hz with hz; exact hz.symm
      have f2 : u1.cell? ⟨b', o' + 2, none⟩ = some (S (cmdRest cmd)) := hcz (X.here _ _)
      have HX1 : Hid (Ext u0 u1) := HM0.out.then_ext hx
      refine ⟨_, rfl, hK _ _ (fun _ => Cl.of HX1.out.any) ?_⟩
      clear hK K hsl hcz hx
      obtain ⟨μ1, rfl⟩ : ∃ ξ : X u0 G, u1 = ξ.v := ⟨⟨u1, HX1.out.any⟩, rfl⟩
      simp only [Act.put, List.setIfInBounds_toArray, List.set_cons_succ, List.set_cons_zero]
      (repeat' (refine Mix.lex_quiet0 rfl rfl rfl ?_; intro K hK; go_big_quiet_op; go_big_quiet_on))
      ((first | refine Mix.lex_goes0 rfl rfl ?_ | refine Mix.lex_goesG rfl rfl rfl (by with_reducible rfl) rfl ?_); intro K hK; go_simp)
      refine hK _ _ (fun _ => ⟨μ1, rfl⟩) ?_
      clear hK K f2
      simp only [Act.put, List.setIfInBounds_toArray, List.set_cons_succ, List.set_cons_zero]
      ((first | refine Mix.lex_goes0 rfl rfl ?_ | refine Mix.lex_goesG rfl rfl rfl (by with_reducible rfl) rfl ?_); intro K hK; go_simp)
      refine (CW.out _ HX1.out).mono ?_
      rintro e u ⟨rfl, r', h1, h2⟩
      have HH := Lib.hid h1
      have HO := Lib.hid h2
      have HG2 : Hid (Only G u0 u) := by rw [Hid, HGq.out]; exact HX1.out.any.trans h2 fun _ _ h => h
      refine ⟨_, rfl, hK _ _ (fun _ => Cl.of HG2.out) ?_⟩
      clear hK K h1 h2
      simp only [Act.put, List.setIfInBounds_toArray, List.set_cons_succ, List.set_cons_zero]
      (repeat' (refine Mix.lex_quiet0 rfl rfl rfl ?_; intro K hK; go_big_quiet_op; go_big_quiet_on))
      refine Mix.lex_nil ?_
      go_wp2_with fail
      go_ret
      rw [HRun.out]
      exact ⟨rfl, r', HH.out, (X0.out.then_ext HX1.out).any.trans HO.out fun _ _ h => h⟩
    · have HRun : Hid (o.run cmd = (o, 4)) := by
        unfold Hid Ov.run
        rw [HW0.out, HNw.out]
        rw [if_pos rfl]; rw [if_neg hn3]
      go_wp2_with fail
      go_ret
      rw [HRun.out]
      exact OvRes.of_ext H.out rfl (X0.out.then_ext HZ0.out)
  by_cases h1 : w0 = kCopy
  · subst h1
    have hcf := HFl.out (by decide)
    clear HFl
    by_cases hn3 : n = 3
    · subst hn3
      obtain ⟨w1, w2, r, rfl⟩ : ∃ w1 w2 r, r1 = w1 :: w2 :: r := by
        have hl := HN.out
        simp only [List.length_cons] at hl
        match r1, hl with
        | w1 :: w2 :: r, _ => exact ⟨w1, w2, r, rfl⟩
        | [], hl => simp at hl <;> omega
        | [_], hl => simp at hl <;> omega
      have d1 := HWc.out 1 w1 rfl
      have HW1 : Hid (wd cmd 1 = w1) := wd_get (by rw [← HWs.out]; rfl)
      have hl1 := HWl.out w1 (by simp)
      have d2 := HWc.out 2 w2 rfl
      have HW2 : Hid (wd cmd 2 = w2) := wd_get (by rw [← HWs.out]; rfl)
      have hl2 := HWl.out w2 (by simp)
      have HRun : Hid (o.run cmd = o.two w1 w2 id) := by
        unfold Hid Ov.run
        rw [HW0.out, HNw.out]
        rw [if_neg (by decide)]; rw [if_pos rfl]; rw [if_pos rfl, HW1.out, HW2.out]
      have CW : Hid (∀ v, Ext u0 v → Calls Tryz.prog 135 #[pt g, S w1, S w2, .func (.func 136) #[] #[]] v (OvRes oP v g (o.two w1 w2 id).1 (errV (o.two w1 w2 id).2))) := fun v hv => two_id (H.out.ext (X0.out.then_ext hv)) HSm.out 1000 (by unfold maxLen; omega) w1 w2 (Ov.rd_len (HTx.out HW0.out (by decide)) w1) (by unfold maxLen; omega) (by unfold maxLen; omega) id (fun s => Nat.le_refl _) (fun v _ s _ => id_c s v)
      go_upto_region 5 with fail
      refine Mix.wp_draw [7] 100 (Cl u0 G) (by kernel_rfl) (by kernel_rfl) (Cl.of ζ.h.drew) ?_
      obtain ⟨μ0, hμ0⟩ : ∃ μ0 : X u0 G, μ0.v = ζ.v.drew := ⟨⟨_, ζ.h.drew⟩, rfl⟩
      have HM0 : Hid (Ext u0 μ0.v) := by rw [hμ0]; exact HZ0.out.drew
      rw [← hμ0]
      clear hμ0
      (repeat' (refine Mix.lex_quiet0 rfl rfl rfl ?_; intro K hK; go_big_quiet_op; go_big_quiet_on))
      ((first | refine Mix.lex_goes0 rfl rfl ?_ | refine Mix.lex_goesG rfl rfl rfl (by with_reducible rfl) rfl ?_); intro K hK; go_simp)
      refine (CW.out _ HM0.out).mono ?_
      rintro e u ⟨rfl, r', h1, h2⟩
      have HH := Lib.hid h1
      have HO := Lib.hid h2
      have HG2 : Hid (Only G u0 u) := by rw [Hid, HGq.out]; exact HM0.out.any.trans h2 fun _ _ h => h
      refine ⟨_, rfl, hK _ _ (fun _ => Cl.of HG2.out) ?_⟩
      clear hK K h1 h2
      simp only [Act.put, List.setIfInBounds_toArray, List.set_cons_succ, List.set_cons_zero]
      (repeat' (refine Mix.lex_quiet0 rfl rfl rfl ?_; intro K hK; go_big_quiet_op; go_big_quiet_on))
      refine Mix.lex_nil ?_
      go_wp2_with fail
      go_ret
      rw [HRun.out]
      exact ⟨rfl, r', HH.out, (X0.out.then_ext HM0.out).any.trans HO.out fun _ _ h => h⟩
    · have HRun : Hid (o.run cmd = (o, 4)) := by
        unfold Hid Ov.run
        rw [HW0.out, HNw.out]
        rw [if_neg (by decide)]; rw [if_pos rfl]; rw [if_neg hn3]
      have hn4 : ((n : Int) == 3) = false := by rw [beq_eq_false_iff_ne]; omega
      go_wp2_with fail
      go_ret
      rw [HRun.out]
      exact OvRes.of_ext H.out rfl (X0.out.then_ext HZ0.out)
  by_cases h2 : w0 = kTurn
  · subst h2
    have hcf := HFl.out (by decide)
    clear HFl
    by_cases hn3 : n = 3
    · subst hn3
      obtain ⟨w1, w2, r, rfl⟩ : ∃ w1 w2 r, r1 = w1 :: w2 :: r := by
        have hl := HN.out
        simp only [List.length_cons] at hl
        match r1, hl with
        | w1 :: w2 :: r, _ => exact ⟨w1, w2, r, rfl⟩
        | [], hl => simp at hl <;> omega
        | [_], hl => simp at hl <;> omega
      have d1 := HWc.out 1 w1 rfl
      have HW1 : Hid (wd cmd 1 = w1) := wd_get (by rw [← HWs.out]; rfl)
      have hl1 := HWl.out w1 (by simp)
      have d2 := HWc.out 2 w2 rfl
      have HW2 : Hid (wd cmd 2 = w2) := wd_get (by rw [← HWs.out]; rfl)
      have hl2 := HWl.out w2 (by simp)
      have HRun : Hid (o.run cmd = o.two w1 w2 List.reverse) := by
        unfold Hid Ov.run
        rw [HW0.out, HNw.out]
        rw [if_neg (by decide)]; rw [if_neg (by decide)]; rw [if_pos rfl]; rw [if_pos rfl, HW1.out, HW2.out]
      have CW : Hid (∀ v, Ext u0 v → Calls Tryz.prog 135 #[pt g, S w1, S w2, .func (.func 137) #[] #[]] v (OvRes oP v g (o.two w1 w2 List.reverse).1 (errV (o.two w1 w2 List.reverse).2))) := fun v hv => two_turn (H.out.ext (X0.out.then_ext hv)) HSm.out maxLen (Nat.le_refl _) w1 w2 (HRl.out w1) (by unfold maxLen; omega) (by unfold maxLen; omega) List.reverse rev_len (fun v _ s h => turned_c s h v)
      go_upto_region 7 with fail
      refine Mix.wp_draw [7] 100 (Cl u0 G) (by kernel_rfl) (by kernel_rfl) (Cl.of ζ.h.drew) ?_
      obtain ⟨μ0, hμ0⟩ : ∃ μ0 : X u0 G, μ0.v = ζ.v.drew := ⟨⟨_, ζ.h.drew⟩, rfl⟩
      have HM0 : Hid (Ext u0 μ0.v) := by rw [hμ0]; exact HZ0.out.drew
      rw [← hμ0]
      clear hμ0
      (repeat' (refine Mix.lex_quiet0 rfl rfl rfl ?_; intro K hK; go_big_quiet_op; go_big_quiet_on))
      ((first | refine Mix.lex_goes0 rfl rfl ?_ | refine Mix.lex_goesG rfl rfl rfl (by with_reducible rfl) rfl ?_); intro K hK; go_simp)
      refine (CW.out _ HM0.out).mono ?_
      rintro e u ⟨rfl, r', h1, h2⟩
      have HH := Lib.hid h1
      have HO := Lib.hid h2
      have HG2 : Hid (Only G u0 u) := by rw [Hid, HGq.out]; exact HM0.out.any.trans h2 fun _ _ h => h
      refine ⟨_, rfl, hK _ _ (fun _ => Cl.of HG2.out) ?_⟩
      clear hK K h1 h2
      simp only [Act.put, List.setIfInBounds_toArray, List.set_cons_succ, List.set_cons_zero]
      (repeat' (refine Mix.lex_quiet0 rfl rfl rfl ?_; intro K hK; go_big_quiet_op; go_big_quiet_on))
      refine Mix.lex_nil ?_
      go_wp2_with fail
      go_ret
      rw [HRun.out]
      exact ⟨rfl, r', HH.out, (X0.out.then_ext HM0.out).any.trans HO.out fun _ _ h => h⟩
    · have HRun : Hid (o.run cmd = (o, 4)) := by
        unfold Hid Ov.run
        rw [HW0.out, HNw.out]
        rw [if_neg (by decide)]; rw [if_neg (by decide)]; rw [if_pos rfl]; rw [if_neg hn3]
      have hn4 : ((n : Int) == 3) = false := by rw [beq_eq_false_iff_ne]; omega
      go_wp2_with fail
      go_ret
      rw [HRun.out]
      exact OvRes.of_ext H.out rfl (X0.out.then_ext HZ0.out)
  by_cases h3 : w0 = kSwap
  · subst h3
    have hcf := HFl.out (by decide)
    clear HFl
    by_cases hn3 : n = 5
    · subst hn3
      obtain ⟨w1, w2, w3, w4, r, rfl⟩ : ∃ w1 w2 w3 w4 r, r1 = w1 :: w2 :: w3 :: w4 :: r := by
        have hl := HN.out
        simp only [List.length_cons] at hl
        match r1, hl with
        | w1 :: w2 :: w3 :: w4 :: r, _ => exact ⟨w1, w2, w3, w4, r, rfl⟩
        | [], hl => simp at hl <;> omega
        | [_], hl => simp at hl <;> omega
        | [_, _], hl => simp at hl <;> omega
        | [_, _, _], hl => simp at hl <;> omega
      have d1 := HWc.out 1 w1 rfl
      have HW1 : Hid (wd cmd 1 = w1) := wd_get (by rw [← HWs.out]; rfl)
      have hl1 := HWl.out w1 (by simp)
      have d2 := HWc.out 2 w2 rfl
      have HW2 : Hid (wd cmd 2 = w2) := wd_get (by rw [← HWs.out]; rfl)
      have hl2 := HWl.out w2 (by simp)
      have d3 := HWc.out 3 w3 rfl
      have HW3 : Hid (wd cmd 3 = w3) := wd_get (by rw [← HWs.out]; rfl)
      have hl3 := HWl.out w3 (by simp)
      have d4 := HWc.out 4 w4 rfl
      have HW4 : Hid (wd cmd 4 = w4) := wd_get (by rw [← HWs.out]; rfl)
      have hl4 := HWl.out w4 (by simp)
      by_cases h3 : w3.length = 1
      · by_cases h4 : w4.length = 1
        · obtain ⟨x, rfl⟩ : ∃ x, w3 = [x] := List.length_eq_one_iff.1 h3
          obtain ⟨y, rfl⟩ : ∃ y, w4 = [y] := List.length_eq_one_iff.1 h4
          have HRun : Hid (o.run cmd = o.two w1 w2 (sw [x] [y])) := by
            unfold Hid Ov.run
            rw [HW0.out, HNw.out]
            rw [if_neg (by decide)]; rw [if_neg (by decide)]; rw [if_neg (by decide)]; rw [if_pos rfl]
            rw [HW3.out, HW4.out, if_pos ⟨rfl, rfl, rfl⟩, HW1.out, HW2.out]
          have CW : Hid (∀ v, Ext u0 v → Calls Tryz.prog 135 #[pt g, S w1, S w2, .func (.func 138) #[] #[.pointer (some ⟨p, 0, none⟩)]] v (OvRes oP v g (o.two w1 w2 (sw [x] [y])).1 (errV (o.two w1 w2 (sw [x] [y])).2))) := fun v hv => two_swap (H.out.ext (X0.out.then_ext hv)) HSm.out 1000 (by unfold maxLen; omega) w1 w2 (Ov.rd_len (HTx.out HW0.out (by decide)) w1) (by unfold maxLen; omega) (by unfold maxLen; omega) (sw [x] [y]) (sw_len _ _) p (fun u hu s hs => swap_c (HM.out.ext ((X0.out.then_ext hv).then_ext hu)) (HP.out.keep (hv.then_ext hu) id) (HR.out.ext (hv.then_ext hu)) rfl rfl rfl s hs)
          go_upto_region 9 with fail
          refine Mix.wp_draw [8] 100 (Cl u0 G) (by kernel_rfl) (by kernel_rfl) (Cl.of ζ.h.drew) ?_
          obtain ⟨μ0, hμ0⟩ : ∃ μ0 : X u0 G, μ0.v = ζ.v.drew := ⟨⟨_, ζ.h.drew⟩, rfl⟩
          have HM0 : Hid (Ext u0 μ0.v) := by rw [hμ0]; exact HZ0.out.drew
          rw [← hμ0]
          clear hμ0
          (repeat' (refine Mix.lex_quiet0 rfl rfl rfl ?_; intro K hK; go_big_quiet_op; go_big_quiet_on))
          ((first | refine Mix.lex_goes0 rfl rfl ?_ | refine Mix.lex_goesG rfl rfl rfl (by with_reducible rfl) rfl ?_); intro K hK; go_simp)
          refine (CW.out _ HM0.out).mono ?_
          rintro e u ⟨rfl, r', h1, h2⟩
          have HH := Lib.hid h1
          have HO := Lib.hid h2
          have HG2 : Hid (Only G u0 u) := by rw [Hid, HGq.out]; exact HM0.out.any.trans h2 fun _ _ h => h
          refine ⟨_, rfl, hK _ _ (fun _ => Cl.of HG2.out) ?_⟩
          clear hK K h1 h2
          simp only [Act.put, List.setIfInBounds_toArray, List.set_cons_succ, List.set_cons_zero]
          (repeat' (refine Mix.lex_quiet0 rfl rfl rfl ?_; intro K hK; go_big_quiet_op; go_big_quiet_on))
          refine Mix.lex_nil ?_
          go_wp2_with fail
          go_ret
          rw [HRun.out]
          exact ⟨rfl, r', HH.out, (X0.out.then_ext HM0.out).any.trans HO.out fun _ _ h => h⟩
        · have HRun : Hid (o.run cmd = (o, 4)) := by
            unfold Hid Ov.run
            rw [HW0.out, HNw.out]
            rw [if_neg (by decide)]; rw [if_neg (by decide)]; rw [if_neg (by decide)]; rw [if_pos rfl]
            rw [HW3.out, HW4.out]
            exact if_neg (fun h => h4 h.2.2)
          have hx : ((w4.length : Int) == 1) = false := by rw [beq_eq_false_iff_ne]; omega
          go_wp2_with fail
          go_ret
          rw [HRun.out]
          exact OvRes.of_ext H.out rfl (X0.out.then_ext HZ0.out)
      · have HRun : Hid (o.run cmd = (o, 4)) := by
          unfold Hid Ov.run
          rw [HW0.out, HNw.out]
          rw [if_neg (by decide)]; rw [if_neg (by decide)]; rw [if_neg (by decide)]; rw [if_pos rfl]
          rw [HW3.out, HW4.out]
          exact if_neg (fun h => h3 h.2.1)
        have hx : ((w3.length : Int) == 1) = false := by rw [beq_eq_false_iff_ne]; omega
        go_wp2_with fail
        go_ret
        rw [HRun.out]
        exact OvRes.of_ext H.out rfl (X0.out.then_ext HZ0.out)
    · have HRun : Hid (o.run cmd = (o, 4)) := by
        unfold Hid Ov.run
        rw [HW0.out, HNw.out]
        rw [if_neg (by decide)]; rw [if_neg (by decide)]; rw [if_neg (by decide)]; rw [if_pos rfl]
        exact if_neg (fun h => hn3 h.1)
      have hn4 : ((n : Int) == 5) = false := by rw [beq_eq_false_iff_ne]; omega
      go_wp2_with fail
      go_ret
      rw [HRun.out]
      exact OvRes.of_ext H.out rfl (X0.out.then_ext HZ0.out)
  by_cases h4 : w0 = kJoin
  · subst h4
    have hcf := HFl.out (by decide)
    clear HFl
    by_cases hn3 : 2 < n
    · obtain ⟨w1, w2, r, rfl⟩ : ∃ w1 w2 r, r1 = w1 :: w2 :: r := by
        have hl := HN.out
        simp only [List.length_cons] at hl
        match r1, hl with
        | w1 :: w2 :: r, _ => exact ⟨w1, w2, r, rfl⟩
        | [], hl => simp at hl <;> omega
        | [_], hl => simp at hl <;> omega
      have d1 := HWc.out 1 w1 rfl
      have HW1 : Hid (wd cmd 1 = w1) := wd_get (by rw [← HWs.out]; rfl)
      have hl1 := HWl.out w1 (by simp)
      have d2 := HWc.out 2 w2 rfl
      have HW2 : Hid (wd cmd 2 = w2) := wd_get (by rw [← HWs.out]; rfl)
      have hl2 := HWl.out w2 (by simp)
      have HRun : Hid (o.run cmd = o.join w1 (w2 :: r)) := by
        unfold Hid Ov.run
        rw [HW0.out, HNw.out]
        rw [if_neg (by decide)]; rw [if_neg (by decide)]; rw [if_neg (by decide)]; rw [if_neg (by decide)]; rw [if_pos rfl]; rw [if_pos hn3, HW1.out, ← HWs.out]; rfl
      have hsl : Hid (∀ v, Ext u0 v → SlR strF v (some ⟨b, 2, none⟩) (n - 2) (w2 :: r)) := fun v hv => by
        have h0 := HR.out.ext hv
        refine ⟨by have := HN.out; simp only [List.length_cons] at this ⊢; omega, fun _ => ?_⟩
        obtain ⟨b', o', he, hb', hc'⟩ := h0.2 (by omega)
        injection he with he
        injection he with e1 e2
        subst e1; subst e2
        refine ⟨b, 2, rfl, hb', fun k x hk j u hu => ?_⟩
        have := hc' (k + 2) x (by simpa using hk) j u hu
        rw [show strF.size = 1 from rfl] at this ⊢
        rw [show 2 + k * 1 + j = 0 + (k + 2) * 1 + j by omega]
        exact this
      have CW : Hid (∀ v, Ext u0 v → Calls Tryz.prog 140 #[pt g, S w1, .slice (some ⟨b, 2, none⟩) (n - 2) (c - 2)] v (OvRes oP v g (o.join w1 (w2 :: r)).1 (errV (o.join w1 (w2 :: r)).2))) := fun v hv => join_c (H.out.ext (X0.out.then_ext hv)) HSm.out (HTx.out HW0.out (by decide)) w1 (by unfold maxLen; omega) (hsl.out v hv) (by omega) (fun x hx => by have := HWl.out x (List.mem_cons_of_mem _ (List.mem_cons_of_mem _ hx)); unfold maxLen; omega)
      go_upto_region 11 with fail
      refine Mix.wp_draw [6] 100 (Cl u0 G) (by kernel_rfl) (by kernel_rfl) (Cl.of ζ.h.drew) ?_
      obtain ⟨μ0, hμ0⟩ : ∃ μ0 : X u0 G, μ0.v = ζ.v.drew := ⟨⟨_, ζ.h.drew⟩, rfl⟩
      have HM0 : Hid (Ext u0 μ0.v) := by rw [hμ0]; exact HZ0.out.drew
      rw [← hμ0]
      clear hμ0
      (repeat' (refine Mix.lex_quiet0 rfl rfl rfl ?_; intro K hK; go_big_quiet_op; go_big_quiet_on))
      ((first | refine Mix.lex_goes0 rfl rfl ?_ | refine Mix.lex_goesG rfl rfl rfl (by with_reducible rfl) rfl ?_); intro K hK; go_simp)
      refine (CW.out _ HM0.out).mono ?_
      rintro e u ⟨rfl, r', h1, h2⟩
      have HH := Lib.hid h1
      have HO := Lib.hid h2
      have HG2 : Hid (Only G u0 u) := by rw [Hid, HGq.out]; exact HM0.out.any.trans h2 fun _ _ h => h
      refine ⟨_, rfl, hK _ _ (fun _ => Cl.of HG2.out) ?_⟩
      clear hK K h1 h2
      simp only [Act.put, List.setIfInBounds_toArray, List.set_cons_succ, List.set_cons_zero]
      (repeat' (refine Mix.lex_quiet0 rfl rfl rfl ?_; intro K hK; go_big_quiet_op; go_big_quiet_on))
      refine Mix.lex_nil ?_
      go_wp2_with fail
      go_ret
      rw [HRun.out]
      exact ⟨rfl, r', HH.out, (X0.out.then_ext HM0.out).any.trans HO.out fun _ _ h => h⟩
    · have HRun : Hid (o.run cmd = (o, 4)) := by
        unfold Hid Ov.run
        rw [HW0.out, HNw.out]
        rw [if_neg (by decide)]; rw [if_neg (by decide)]; rw [if_neg (by decide)]; rw [if_neg (by decide)]; rw [if_pos rfl]; rw [if_neg hn3]
      go_wp2_with fail
      go_ret
      rw [HRun.out]
      exact OvRes.of_ext H.out rfl (X0.out.then_ext HZ0.out)
  by_cases h5 : w0 = kNeed
  · subst h5
    have hcf := HFl.out (by decide)
    clear HFl
    by_cases hn3 : n = 2
    · subst hn3
      obtain ⟨w1, r, rfl⟩ : ∃ w1 r, r1 = w1 :: r := by
        have hl := HN.out
        simp only [List.length_cons] at hl
        match r1, hl with
        | w1 :: r, _ => exact ⟨w1, r, rfl⟩
        | [], hl => simp at hl <;> omega
      have d1 := HWc.out 1 w1 rfl
      have HW1 : Hid (wd cmd 1 = w1) := wd_get (by rw [← HWs.out]; rfl)
      have hl1 := HWl.out w1 (by simp)
      have HRun : Hid (o.run cmd = (o, o.need w1)) := by
        unfold Hid Ov.run
        rw [HW0.out, HNw.out]
        rw [if_neg (by decide)]; rw [if_neg (by decide)]; rw [if_neg (by decide)]; rw [if_neg (by decide)]; rw [if_neg (by decide)]; rw [if_pos rfl]; rw [if_pos rfl, HW1.out]
      have CW : Hid (∀ v, Ext u0 v → Calls Tryz.prog 141 #[pt g, S w1] v fun e w' => e = .returned (errV (o.need w1)) ∧ Ext v w') := fun v hv => need_c (H.out.ext (X0.out.then_ext hv)) HSm.out w1 (by unfold maxLen; omega)
      go_wp2_with fail
      refine (CW.out _ HZ0.out).mono ?_
      rintro e u ⟨rfl, hu⟩
      have HU := Lib.hid (HZ0.out.then_ext hu)
      clear hu
      go_wp2_with fail
      go_ret
      rw [HRun.out]
      exact OvRes.of_ext H.out rfl (X0.out.then_ext HU.out)
    · have HRun : Hid (o.run cmd = (o, 4)) := by
        unfold Hid Ov.run
        rw [HW0.out, HNw.out]
        rw [if_neg (by decide)]; rw [if_neg (by decide)]; rw [if_neg (by decide)]; rw [if_neg (by decide)]; rw [if_neg (by decide)]; rw [if_pos rfl]; rw [if_neg hn3]
      have hn4 : ((n : Int) == 2) = false := by rw [beq_eq_false_iff_ne]; omega
      go_wp2_with fail
      go_ret
      rw [HRun.out]
      exact OvRes.of_ext H.out rfl (X0.out.then_ext HZ0.out)
  have q0 : (w0 == kPut) = false := by simpa using h0
  have q1 : (w0 == kCopy) = false := by simpa using h1
  have q2 : (w0 == kTurn) = false := by simpa using h2
  have q3 : (w0 == kSwap) = false := by simpa using h3
  have q4 : (w0 == kJoin) = false := by simpa using h4
  have q5 : (w0 == kNeed) = false := by simpa using h5
  have HRun : Hid (o.run cmd = if cmd = kFail then (o, 7) else (o, 4)) := by
    unfold Hid Ov.run
    rw [HW0.out, if_neg h0, if_neg h1, if_neg h2, if_neg h3, if_neg h4, if_neg h5]
  clear h0 h1 h2 h3 h4 h5 HFl
  obtain ⟨f, hf⟩ : ∃ f, (cmd == kFail) = f := ⟨_, rfl⟩
  have HRun2 : Hid (o.run cmd = (o, if f then 7 else 4)) := by
    rw [Hid, HRun.out]
    cases f with
    | true => rw [if_pos (by simpa using hf)]; rfl
    | false => rw [if_neg (by simpa using hf)]; rfl
  clear HRun
  cases f <;>
  · go_wp2_with fail
    go_ret
    rw [HRun2.out]
    exact OvRes.of_ext H.out rfl (X0.out.then_ext HZ0.out)
structure Grp where
  targets : List Str
  needs : List Str
  cmds : List Str
  phony : Bool
  deriving DecidableEq
structure GrpV where
  tA : Option Addr
  tc : Nat
  nA : Option Addr
  nc : Nat
  cA : Option Addr
  cc : Nat
def grpCs (v : GrpV) (g : Grp) : Array Value := #[.slice v.tA g.targets.length v.tc, .slice v.nA g.needs.length v.nc, .slice v.cA g.cmds.length v.cc, .bool g.phony]
abbrev grpV (v : GrpV) (g : Grp) : Value := .agg (grpCs v g)
structure GrpR (w : World) (v : GrpV) (g : Grp) : Prop where
  t : SlR strF w v.tA g.targets.length g.targets
  n : SlR strF w v.nA g.needs.length g.needs
  c : SlR strF w v.cA g.cmds.length g.cmds
theorem GrpR.ext {w u : World} {v : GrpV} {g : Grp} (h : GrpR w v g) (hx : Ext w u) : GrpR u v g := ⟨h.t.ext hx, h.n.ext hx, h.c.ext hx⟩
structure Grp.Lim (g : Grp) : Prop where
  t : g.targets.length ≤ 1000
  n : g.needs.length ≤ 1000
  c : g.cmds.length ≤ 1000
  l : ∀ x ∈ g.cmds, x.length ≤ 1000
def Ov.runs (o : Ov) : List Str → Ov × Int
  | [] => (o, 0)
  | c :: cs => if (o.run c).2 = 0 then Ov.runs (o.run c).1 cs else ((o.run c).1, (o.run c).2)
def ov0 (xs : List File) (g : Grp) : Ov := ⟨xs, [], g.needs, g.targets⟩
def allF (xs : List File) (g : Grp) : List File × Int :=
  if ((ov0 xs g).runs g.cmds).2 = 0 then (if ((ov0 xs g).runs g.cmds).1.own.length < g.targets.length then ([], 5) else (((ov0 xs g).runs g.cmds).1.own, 0)) else ([], ((ov0 xs g).runs g.cmds).2)
theorem Ov.runs_cons (o : Ov) (c : Str) (cs : List Str) : o.runs (c :: cs) = if (o.run c).2 = 0 then (o.run c).1.runs cs else ((o.run c).1, (o.run c).2) := rfl
theorem ov0_fit (xs : List File) (g : Grp) : (ov0 xs g).Fit xs g.needs g.targets 0 := ⟨rfl, rfl, rfl, by simp [Rise, ov0], Nat.le_refl _, fun f hf => by cases hf⟩
theorem getT_max {k : Str} {xs : List File} (h : ∀ f ∈ xs, f.2.length ≤ maxLen) : (getT k xs).length ≤ maxLen := by
  unfold getT
  cases hg : getL fk k xs with
  | none => simp
  | some x => exact h x (mem_getL_ hg)
theorem Ov.Fit.rd_max {xs : List File} {ns ts : List Str} {k : Nat} {o : Ov} (h : o.Fit xs ns ts k) (hx : ∀ f ∈ xs, f.2.length ≤ maxLen) (a : Str) : (o.rd a).length ≤ maxLen := by
  unfold Ov.rd
  split
  · exact Nat.le_trans (getT_len h.tx) (by unfold maxLen; omega)
  · split
    · split
      · exact getT_max (by rw [h.eb]; exact hx)
      · simp
    · simp
set_option maxRecDepth 100000 in
set_option maxHeartbeats 2000000 in
theorem All_c' {w : World} (hm : Ml w) {A : Option Addr} {n c : Nat} {xs : List File} (h1 : SlR fileF w A n xs) (hn : n ≤ 10000) (hr : Rise fk xs) (hxm : ∀ f ∈ xs, f.2.length ≤ maxLen) {v : GrpV} {g : Grp} (hg : GrpR w v g) (hl : g.Lim) (hxt : (∀ f ∈ xs, f.2.length ≤ 1000) ∨ ∀ c ∈ g.cmds, wd c 0 = kTurn) :
    Calls Tryz.prog 73 #[.slice A n c, grpV v g] w fun e w' => ∃ A' c', e = .returned (.tuple #[.slice A' (allF xs g).1.length c', errV (allF xs g).2]) ∧ Fresh fileF 75 w w' A' c' (allF xs g).1 := by
  obtain ⟨tA, tc, nA, nc, cA, cc⟩ := v
  obtain ⟨w0, hw0⟩ : ∃ w0, w0 = w.alloc (.cells (grpCs ⟨tA, tc, nA, nc, cA, cc⟩ g) 46) := ⟨_, rfl⟩
  have hx0 : Ext w w0 := by rw [hw0]; exact (Only.refl No w).alloc _
  have hB : Cs w0 w.heap.size 46 (grpCs ⟨tA, tc, nA, nc, cA, cc⟩ g) := by rw [hw0]; exact Cs.new _ _ _
  have d0 : ∀ ξ : X w0 No, ξ.v.cell? ⟨w.heap.size, 0, none⟩ = some (.slice tA g.targets.length tc) := hB.x id 0
  have d1 : ∀ ξ : X w0 No, ξ.v.cell? ⟨w.heap.size, 1, none⟩ = some (.slice nA g.needs.length nc) := hB.x id 1
  have d2 : ∀ ξ : X w0 No, ξ.v.cell? ⟨w.heap.size, 2, none⟩ = some (.slice cA g.cmds.length cc) := hB.x id 2
  have e0 : w0.cell? ⟨w.heap.size, 0, none⟩ = some (.slice tA g.targets.length tc) := hB.cell 0
  have e1 : w0.cell? ⟨w.heap.size, 1, none⟩ = some (.slice nA g.needs.length nc) := hB.cell 1
  have HX0 := Lib.hid hx0
  have HM := Lib.hid (hm.ext hx0)
  have HGr := Lib.hid (hg.ext hx0)
  have ht1 := hl.t
  have ht2 := hl.n
  have ht3 := hl.c
  have HLl := Lib.hid hl.l
  have HNew := Lib.hid (New_c (c := c) (d := nc) (e := tc) (h1.ext hx0) HGr.out.n HGr.out.t hn (by omega) (by omega))
  have hlen := h1.1
  have HA : Hid (allF xs g = if ((ov0 xs g).runs g.cmds).2 = 0 then (if ((ov0 xs g).runs g.cmds).1.own.length < g.targets.length then ([], 5) else (((ov0 xs g).runs g.cmds).1.own, 0)) else ([], ((ov0 xs g).runs g.cmds).2)) := rfl
  have HSm : Hid (∀ k o, k ≤ 10000 → Ov.Fit xs g.needs g.targets k o → o.Small ∧ (∀ k, (o.rd k).length ≤ maxLen) ∧ ∀ c ∈ g.cmds, wd c 0 = kTurn ∨ o.Tx) := fun k o hk hf => ⟨hf.small (by omega) (by omega) (by omega) hk hr, hf.rd_max hxm, fun c hc => hxt.elim (fun h => .inr (hf.txs h)) fun h => .inl (h c hc)⟩
  have HF0 := Lib.hid (ov0_fit xs g)
  obtain ⟨o0, ho0⟩ : ∃ o0, o0 = ov0 xs g := ⟨_, rfl⟩
  have HO0 : Hid (o0 = ⟨xs, [], g.needs, g.targets⟩) := ho0
  rw [← ho0] at HA HF0
  generalize allF xs g = R at HA ⊢
  clear hB hx0 hm hg hl h1 hr hxt hxm ho0
  unfold grpCs at hw0
  show Calls _ _ #[_, .agg #[.slice tA g.targets.length tc, .slice nA g.needs.length nc, .slice cA g.cmds.length cc, .bool g.phony]] _ _
  go_enter Tryz.func73, Tryz.ntmps73
  go_upto_region 1 with fail
  rw [← hw0]
  clear hw0
  go_wp2_with fail
  refine HNew.out.mono ?_
  rintro e u ⟨q, r, rfl, ho, hx, hq⟩
  rw [← HO0.out] at ho
  have HOv := Lib.hid ho
  have HU : Hid (Ext w0 u) := hx
  clear ho hx HNew HO0
  obtain ⟨ξ, rfl⟩ : ∃ ξ : X w0 No, u = ξ.v := ⟨⟨u, HU.out⟩, rfl⟩
  go_wp2_with fail
  go_loopw [20] (fun i wr => ∃ j : Nat, j ≤ g.cmds.length ∧ i = .int .i64 j ∧ ∃ r' o', OvAt oP wr q r' o' ∧ o'.Fit xs g.needs g.targets j ∧ o0.runs g.cmds = o'.runs (g.cmds.drop j) ∧ Ext w0 wr) (fun i _ => g.cmds.length - (intOf i).toNat)
  case atStart => exact ⟨0, Nat.zero_le _, rfl, r, o0, HOv.out, HF0.out, rfl, HU.out⟩
  case round =>
    clear HOv HU ξ
    obtain ⟨j, hj, rfl, r', o', hO, hF, hJ, hX⟩ := hrel
    have HO := Lib.hid hO
    have HF := Lib.hid hF
    have HJ := Lib.hid hJ
    obtain ⟨ξ, rfl⟩ : ∃ ξ : X w0 No, wr = ξ.v := ⟨⟨wr, hX⟩, rfl⟩
    clear hO hF hJ hX
    obtain ⟨hsm, hrm, htx⟩ := HSm.out j o' (by omega) HF.out
    by_cases hlt : j < g.cmds.length
    · obtain ⟨b, o, x, hBe, hx, c0⟩ := strs_get HGr.out.c hlt
      have hdr : Hid (g.cmds.drop j = x :: g.cmds.drop (j + 1)) := by
        obtain ⟨hl, rfl⟩ := List.getElem?_eq_some_iff.1 hx
        exact List.drop_eq_getElem_cons hl
      have hxl := HLl.out x (List.mem_of_getElem? hx)
      have HRun := Lib.hid (Run_c' x (HM.out.ext ξ.h) HO.out hsm hrm (htx x (List.mem_of_getElem? hx)) hxl)
      have HJ2 : Hid (o0.runs g.cmds = if (o'.run x).2 = 0 then (o'.run x).1.runs (g.cmds.drop (j + 1)) else ((o'.run x).1, (o'.run x).2)) := by rw [Hid, HJ.out, hdr.out, Ov.runs_cons]
      have HF2 := Lib.hid (HF.out.run x)
      generalize o'.run x = y at HRun HJ2 HF2
      obtain ⟨o2, f⟩ := y
      dsimp only at HRun HJ2 HF2
      subst hBe
      clear hx hdr hxl HJ hsm hrm htx
      go_wp2_with fail
      refine HRun.out.mono ?_
      rintro e u ⟨rfl, r2, h1, h2⟩
      have HO2 := Lib.hid h1
      have HX2 : Hid (Ext w0 u) := ξ.h.trans h2 fun b hb e => by omega
      clear h1 h2 HRun
      obtain ⟨ξ2, rfl⟩ : ∃ ξ : X w0 No, u = ξ.v := ⟨⟨u, HX2.out⟩, rfl⟩
      by_cases hf : f = 0
      · have HJ3 : Hid (o0.runs g.cmds = o2.runs (g.cmds.drop (j + 1))) := by rw [Hid, HJ2.out, if_pos hf]
        subst hf
        rw [errV_zero]
        clear HJ2
        go_wp2_with fail
        go_roundw
        case rel => exact ⟨j + 1, by omega, by go_num, r2, o2, HO2.out, HF2.out, HJ3.out, HX2.out⟩
        case measure => simp [intOf]; omega
      · have HRes : Hid (R = ([], f)) := by
          rw [Hid, HA.out, HJ2.out, if_neg hf]
          exact if_neg hf
        have HE := Lib.hid (errV_pos hf)
        rw [errV_pos hf]
        clear HJ2 HA hf
        go_wp2_with fail
        go_ret2
        rw [HRes.out]
        exact ⟨none, 0, by rw [HE.out]; rfl, Fresh.nil _ _ _ _ (HX0.out.then_ext HX2.out)⟩
    · obtain rfl : j = g.cmds.length := by omega
      have HJ2 : Hid (o0.runs g.cmds = (o', 0)) := by rw [Hid, HJ.out, List.drop_length]; rfl
      have HOw := Lib.hid (Own_c rfl HO.out hsm)
      have hol := hsm.own
      have HA2 : Hid (R = if o'.own.length < g.targets.length then ([], 5) else (o'.own, 0)) := by
        rw [Hid, HA.out, HJ2.out]
        exact if_pos rfl
      clear HJ HJ2 HA hsm hrm htx
      go_wp2_with fail
      refine HOw.out.mono ?_
      rintro e u ⟨A2, c2, rfl, hF2⟩
      have F2 := Lib.hid (hF2.from (HX0.out.then_ext ξ.h))
      obtain ⟨ξ3, rfl⟩ : ∃ ξ : X w0 No, u = ξ.v := ⟨⟨u, ξ.h.then_ext hF2.ext⟩, rfl⟩
      clear hF2 HOw
      generalize o'.own = ys at F2 hol HA2
      by_cases hlt2 : ys.length < g.targets.length
      · rw [if_pos hlt2] at HA2
        go_wp2_with fail
        go_ret2
        rw [HA2.out]
        exact ⟨none, 0, rfl, Fresh.nil _ _ _ _ F2.out.ext⟩
      · rw [if_neg hlt2] at HA2
        go_wp2_with fail
        go_ret2
        rw [HA2.out]
        exact ⟨A2, c2, rfl, F2.out⟩
theorem All_c {w : World} (hm : Ml w) {A : Option Addr} {n c : Nat} {xs : List File} (h1 : SlR fileF w A n xs) (hn : n ≤ 10000) (hr : Rise fk xs) (hxt : ∀ f ∈ xs, f.2.length ≤ 1000) {v : GrpV} {g : Grp} (hg : GrpR w v g) (hl : g.Lim) :
    Calls Tryz.prog 73 #[.slice A n c, grpV v g] w fun e w' => ∃ A' c', e = .returned (.tuple #[.slice A' (allF xs g).1.length c', errV (allF xs g).2]) ∧ Fresh fileF 75 w w' A' c' (allF xs g).1 :=
  All_c' hm h1 hn hr (fun f hf => Nat.le_trans (hxt f hf) (by unfold maxLen; omega)) hg hl (.inl hxt)
structure Rcd where
  cmds : List Str
  needs : List File
  out : List File
structure RcdV where
  cA : Option Addr
  cc : Nat
  nA : Option Addr
  nc : Nat
  oA : Option Addr
  oc : Nat
abbrev rcT : TypeId := 66
def rcdCs (v : RcdV) (r : Rcd) : Array Value := #[.slice v.cA r.cmds.length v.cc, .slice v.nA r.needs.length v.nc, .slice v.oA r.out.length v.oc]
abbrev rcdV (v : RcdV) (r : Rcd) : Value := .agg (rcdCs v r)
structure RcdR (w : World) (v : RcdV) (r : Rcd) : Prop where
  c : SlR strF w v.cA r.cmds.length r.cmds
  n : SlR fileF w v.nA r.needs.length r.needs
  o : SlR fileF w v.oA r.out.length r.out
theorem RcdR.ext {w u : World} {v : RcdV} {r : Rcd} (h : RcdR w v r) (hx : Ext w u) : RcdR u v r := ⟨h.c.ext hx, h.n.ext hx, h.o.ext hx⟩
structure Rcd.Lim (r : Rcd) : Prop where
  c : r.cmds.length ≤ 100
  n : r.needs.length ≤ 100
  o : r.out.length ≤ 100
  lc : ∀ x ∈ r.cmds, x.length ≤ 10000
  ln : ∀ x ∈ r.needs, x.1.length ≤ 10000 ∧ x.2.length ≤ 10000
  lo : ∀ x ∈ r.out, x.1.length ≤ 10000 ∧ x.2.length ≤ 10000
theorem load_rc {w : World} {b : Nat} {x y z : Value} (h : Cs w b rcT #[x, y, z]) : (loadVar rcT ⟨b, 0, none⟩).run Tryz.prog w = .ok (.agg #[x, y, z]) w := by
  have c0 := h.cell 0
  have c1 := h.cell 1
  have c2 := h.cell 2
  simp only [List.getElem?_toArray, List.getElem?_cons_succ, List.getElem?_cons_zero] at c0 c1 c2
  go_simp
theorem EqualFiles_c {w : World} {A B : Option Addr} {n m c d : Nat} {xs ys : List File} (h1 : SlR fileF w A n xs) (h2 : SlR fileF w B m ys) (hn : n ≤ 10000) (hm : m ≤ 10000) :
    Calls Tryz.prog 113 #[.slice A n c, .slice B m d] w fun e w' => e = .returned (.bool (decide (xs = ys))) ∧ Ext w w' := by
  by_cases hnm : n = m
  · subst hnm
    go_enter Tryz.func113, Tryz.ntmps113
    go_wp2
    go_loopw [13] (fun i wr => ∃ k : Nat, k ≤ n ∧ i = .int .i64 k ∧ xs.take k = ys.take k ∧ ∃ ξ : X w No, wr = ξ.v) (fun i _ => n - (intOf i).toNat)
    case atStart => exact ⟨0, Nat.zero_le _, rfl, rfl, X.here _ _, rfl⟩
    case round =>
      obtain ⟨k, hk, rfl, hT, ξ, rfl⟩ := hrel
      have HT := Lib.hid hT
      clear hT
      by_cases hlt : k < n
      · obtain ⟨b, o, f, rfl, hx, c0, c1⟩ := files_get h1 hlt
        obtain ⟨b', o', f', rfl, hx', c2, c3⟩ := files_get h2 hlt
        go_upto_region 6 with fail
        (refine Mix.wp_draw [] 100 (Cl (w) (No)) (by kernel_rfl) (by kernel_rfl) (Cl.drew_ ξ) ?_; (repeat' (first | (refine Mix.lex_quiet0 rfl rfl rfl ?_; intro K hK; go_big_quiet_op; go_big_quiet_on) | (refine Mix.lex_quietG rfl rfl rfl (by with_reducible rfl) rfl rfl ?_; intro K hK; go_big_quiet_op; go_big_quiet_on) | ((first | refine Mix.lex_skipT rfl rfl rfl (by with_reducible rfl) ?_ | refine Mix.lex_skipF rfl rfl rfl (by with_reducible rfl) ?_ | refine Mix.lex_skipU rfl rfl rfl (by with_reducible rfl) ?_); simp only [Act.put, List.setIfInBounds_toArray, List.set_cons_succ, List.set_cons_zero]) | (refine Mix.lex_part rfl rfl rfl rfl (fun hq => ?_) (fun hq => ?_) <;> (fail_if_success (guard_hyp hq :ₛ true = true)) <;> (fail_if_success (guard_hyp hq :ₛ false = false)) <;> first | (exfalso; cases hq; done) | (exfalso; simp only [decide_eq_true_eq, decide_eq_false_iff_not, beq_iff_eq, beq_eq_false_iff_ne, ne_eq, Int.not_lt, Int.not_le] at hq; omega) | simp only [Act.put, List.setIfInBounds_toArray, List.set_cons_succ, List.set_cons_zero]))))
        all_goals (refine Mix.lex_nil ?_)
        cases hB : fileB f.1 f.2 f'.1 f'.2
        · go_wp2
          go_ret
          exact ⟨ret_bool (decide_eq_false (ne_at hx hx' (fileB_false hB))).symm, ξ.h.drew⟩
        · go_wp2
          go_roundw
          case rel => exact ⟨k + 1, by omega, by go_num, take_grow HT.out hx hx' (fileB_true hB), ⟨_, ξ.h.drew⟩, rfl⟩
          case measure => simp [intOf]; omega
      · go_wp2
        go_ret
        exact ⟨ret_bool (decide_eq_true (eq_of_take HT.out h1.1 h2.1 (by omega))).symm, ξ.h⟩
  · go_enter Tryz.func113, Tryz.ntmps113
    go_wp2
    · go_ret
      exact ⟨ret_bool (decide_eq_false (fun e => hnm (by rw [← h1.1, ← h2.1, e]))).symm, Only.refl _ _⟩
theorem EqualStrs_c {w : World} {A B : Option Addr} {n m c d : Nat} {xs ys : List Str} (h1 : SlR strF w A n xs) (h2 : SlR strF w B m ys) (hn : n ≤ 10000) (hm : m ≤ 10000) :
    Calls Tryz.prog 112 #[.slice A n c, .slice B m d] w fun e w' => e = .returned (.bool (decide (xs = ys))) ∧ Ext w w' := by
  by_cases hnm : n = m
  · subst hnm
    go_enter Tryz.func112, Tryz.ntmps112
    go_wp2
    go_loopw [13] (fun i wr => ∃ k : Nat, k ≤ n ∧ i = .int .i64 k ∧ xs.take k = ys.take k ∧ ∃ ξ : X w No, wr = ξ.v) (fun i _ => n - (intOf i).toNat)
    case atStart => exact ⟨0, Nat.zero_le _, rfl, rfl, X.here _ _, rfl⟩
    case round =>
      obtain ⟨k, hk, rfl, hT, ξ, rfl⟩ := hrel
      have HT := Lib.hid hT
      clear hT
      by_cases hlt : k < n
      · obtain ⟨b, o, f, rfl, hx, c0⟩ := strs_get h1 hlt
        obtain ⟨b', o', f', rfl, hx', c2⟩ := strs_get h2 hlt
        have HX := Lib.hid hx
        have HX' := Lib.hid hx'
        clear hx hx'
        obtain ⟨p, hp⟩ : ∃ p, (f == f') = p := ⟨_, rfl⟩
        cases p
        · have HP : Hid (f ≠ f') := by unfold Hid; simpa using hp
          go_upto_region 6 with fail
          (refine Mix.wp_draw [] 100 (Cl (w) (No)) (by kernel_rfl) (by kernel_rfl) (Cl.drew_ ξ) ?_; (repeat' (first | (refine Mix.lex_quiet0 rfl rfl rfl ?_; intro K hK; go_big_quiet_op; go_big_quiet_on) | (refine Mix.lex_quietG rfl rfl rfl (by with_reducible rfl) rfl rfl ?_; intro K hK; go_big_quiet_op; go_big_quiet_on) | ((first | refine Mix.lex_skipT rfl rfl rfl (by with_reducible rfl) ?_ | refine Mix.lex_skipF rfl rfl rfl (by with_reducible rfl) ?_ | refine Mix.lex_skipU rfl rfl rfl (by with_reducible rfl) ?_); simp only [Act.put, List.setIfInBounds_toArray, List.set_cons_succ, List.set_cons_zero]) | (refine Mix.lex_part rfl rfl rfl rfl (fun hq => ?_) (fun hq => ?_) <;> (fail_if_success (guard_hyp hq :ₛ true = true)) <;> (fail_if_success (guard_hyp hq :ₛ false = false)) <;> first | (exfalso; cases hq; done) | (exfalso; simp only [decide_eq_true_eq, decide_eq_false_iff_not, beq_iff_eq, beq_eq_false_iff_ne, ne_eq, Int.not_lt, Int.not_le] at hq; omega) | simp only [Act.put, List.setIfInBounds_toArray, List.set_cons_succ, List.set_cons_zero]))))
          all_goals (refine Mix.lex_nil ?_)
          go_wp2_with fail
          go_ret
          exact ⟨ret_bool (decide_eq_false (ne_at HX.out HX'.out HP.out)).symm, ξ.h.drew⟩
        · have HP : Hid (f = f') := by unfold Hid; simpa using hp
          go_upto_region 6 with fail
          (refine Mix.wp_draw [] 100 (Cl (w) (No)) (by kernel_rfl) (by kernel_rfl) (Cl.drew_ ξ) ?_; (repeat' (first | (refine Mix.lex_quiet0 rfl rfl rfl ?_; intro K hK; go_big_quiet_op; go_big_quiet_on) | (refine Mix.lex_quietG rfl rfl rfl (by with_reducible rfl) rfl rfl ?_; intro K hK; go_big_quiet_op; go_big_quiet_on) | ((first | refine Mix.lex_skipT rfl rfl rfl (by with_reducible rfl) ?_ | refine Mix.lex_skipF rfl rfl rfl (by with_reducible rfl) ?_ | refine Mix.lex_skipU rfl rfl rfl (by with_reducible rfl) ?_); simp only [Act.put, List.setIfInBounds_toArray, List.set_cons_succ, List.set_cons_zero]) | (refine Mix.lex_part rfl rfl rfl rfl (fun hq => ?_) (fun hq => ?_) <;> (fail_if_success (guard_hyp hq :ₛ true = true)) <;> (fail_if_success (guard_hyp hq :ₛ false = false)) <;> first | (exfalso; cases hq; done) | (exfalso; simp only [decide_eq_true_eq, decide_eq_false_iff_not, beq_iff_eq, beq_eq_false_iff_ne, ne_eq, Int.not_lt, Int.not_le] at hq; omega) | simp only [Act.put, List.setIfInBounds_toArray, List.set_cons_succ, List.set_cons_zero]))))
          all_goals (refine Mix.lex_nil ?_)
          go_wp2_with fail
          go_roundw
          case rel => exact ⟨k + 1, by omega, by go_num, take_grow HT.out HX.out HX'.out HP.out, ⟨_, ξ.h.drew⟩, rfl⟩
          case measure => simp [intOf]; omega
      · go_wp2
        go_ret
        exact ⟨ret_bool (decide_eq_true (eq_of_take HT.out h1.1 h2.1 (by omega))).symm, ξ.h⟩
  · go_enter Tryz.func112, Tryz.ntmps112
    go_wp2
    · go_ret
      exact ⟨ret_bool (decide_eq_false (fun e => hnm (by rw [← h1.1, ← h2.1, e]))).symm, Only.refl _ _⟩
def sameR (r q : Rcd) : Bool := decide (r.cmds = q.cmds) && decide (r.needs = q.needs) && decide (r.out = q.out)
theorem sameR_self (r : Rcd) : sameR r r = true := by simp [sameR]
theorem fl_info : (Tryz.prog.info? 75).map (fun i => (i.zero, i.size, i.bytes)) = some (some (.agg #[.string ⟨#[]⟩, .string ⟨#[]⟩]), 2, 32) := by kernel_rfl
theorem fl_ty : Ety Tryz.prog 22 75 2 := Ety.mk' Tryz.underlying22 fl_info rfl (by omega) (by omega)
theorem fl_enc1 : ∀ (xs : List File), ∀ u ∈ xs.flatMap fileF.enc, u.oneCell' = true := by
  intro xs u hu
  obtain ⟨x, _, hx⟩ := List.mem_flatMap.1 hu
  rcases List.mem_cons.1 hx with rfl | hx
  · rfl
  · rcases List.mem_cons.1 hx with rfl | hx
    · rfl
    · cases hx
theorem own_cs {w : World} {B : Nat} {e : TypeId} {size n : Nat} {x : Value} {xs : List Value} (h : w.ownsRow B e size x n xs) {g : Nat} (hg : x.ownBlock = some g) : ∃ cur, Cs w g e cur := by
  rcases h.2 with ⟨rfl, _⟩ | ⟨g', cap, cur, rfl, hb, hh, _⟩
  · simp [Value.ownBlock] at hg
  · simp [Value.ownBlock] at hg
    subst hg
    exact ⟨cur, hh⟩
theorem own_ne_cs {w : World} {B : Nat} {e t : TypeId} {size n g : Nat} {x : Value} {xs : List Value} {cs : Array Value} (h : w.ownsRow B e size x n xs) (hc : Cs w g t cs) (hne : e ≠ t) : ∀ b, x.ownBlock = some b → ¬ b = g := by
  rintro b hb rfl
  obtain ⟨cur, h1⟩ := own_cs h hb
  exact Cs.ne_ h1 hc hne rfl
theorem own_ne_own {w : World} {B B' : Nat} {e t : TypeId} {size size' n n' : Nat} {x y : Value} {xs ys : List Value} (h : w.ownsRow B e size x n xs) (h' : w.ownsRow B' t size' y n' ys) (hne : e ≠ t) : ∀ b, x.ownBlock = some b → y.ownBlock ≠ some b := by
  intro b hb hb'
  obtain ⟨cur, h1⟩ := own_cs h hb
  obtain ⟨cur', h2⟩ := own_cs h' hb'
  exact Cs.ne_ h1 h2 hne rfl
theorem Fresh.keep {α : Type} {T : Flat α} {t : TypeId} {w wr u : World} {A : Option Addr} {c : Nat} {xs : List α} {F : Nat → Prop} (h : Fresh T t w wr A c xs) (hx : Only F wr u) (hE : Ext w u) (hn : ∀ g, (Value.slice A xs.length c).ownBlock = some g → ¬ F g) : Fresh T t w u A c xs := ⟨own_keep h.own hx hn, hE, h.new⟩
end Go.Proofs.YtnhaekifcieeoaaGreatDoor
