/- Put together: Rec6, Rec7. -/
import Derived.Test.YtnhaekifcieeoaaGreatDoorPk07
namespace Go.Proofs.YtnhaekifcieeoaaGreatDoor
open Go Go.RowKit
theorem one_at {t : Str} {j : Nat} (h : j < t.length) : (t.take (j + 1)).drop j = [t[j]] := by
  rw [List.take_add_one, List.getElem?_eq_getElem h, List.drop_append_of_le_length (by simp; omega), List.drop_eq_nil_of_le (by simp; omega)]
  rfl
theorem take_one {t : Str} {j : Nat} (h : j < t.length) : t.take (j + 1) = t.take j ++ [t[j]] := by
  rw [List.take_add_one, List.getElem?_eq_getElem h]; rfl
theorem sw_app (x y a : Str) (c : UInt8) : sw x y (a ++ [c]) = sw x y a ++ [if [c] = x then y.headD 0 else c] := by simp [sw]
theorem id_len (s : Str) : (id s).length ≤ s.length := Nat.le_refl _
theorem run_fail (o : Ov) : o.run kFail = (o, 7) := by
  unfold Ov.run
  have h : wd kFail 0 = kFail := by decide
  rw [h]
  rfl
theorem rest_le {cmd w0 w1 w2 : Str} {r : List Str} (h : splB 32 cmd = w0 :: w1 :: w2 :: r) : w0.length + w1.length + 2 ≤ cmd.length := (splitK_two 32 h).2
set_option maxRecDepth 100000 in
set_option maxHeartbeats 4000000 in
theorem RRun_c {w : World} {g : Nat} {r : OvR} {o : Ov} (h : OvAt oR w g r o) (hs : o.Small) (ht : o.Tx) (cmd : Str) (hc : cmd.length ≤ 1000) :
    Calls Tryz.prog 76 #[pt g, S cmd] w (OvRes oR w g (o.run cmd).1 (.int .i64 (o.run cmd).2)) := by
  have HSp := Lib.hid (RSplit_c cmd (by omega) 32 32 rfl w)
  have H := Lib.hid h
  have hgw := h.cs.lt
  have HSm := Lib.hid hs
  have HTx := Lib.hid ht
  obtain ⟨ws, hws⟩ : ∃ ws, ws = splB 32 cmd := ⟨_, rfl⟩
  have hwl : ∀ x ∈ ws, x.length ≤ 1000 := fun x hx => by rw [hws] at hx; have := splB_words 32 cmd x hx; omega
  have hne : ws ≠ [] := by rw [hws]; exact splB_ne _ _
  have hn1 : 1 ≤ ws.length := by cases ws with | nil => exact absurd rfl hne | cons _ _ => simp
  have hn2 : ws.length ≤ 1001 := by rw [hws]; have := splB_le 32 cmd; omega
  rw [← hws] at HSp
  have HWs := Lib.hid hws
  have HWl := Lib.hid hwl
  clear h hs ht hws hwl hne
  go_enter Tryz.func76, Tryz.ntmps76
  go_wp2_with fail
  refine (HSp.out).mono ?_; rintro e uu ⟨A, c, rfl, hf⟩; obtain ⟨ξ1, hnew⟩ : ∃ ξ : X w No, ξ.v = uu := ⟨⟨uu, (X.here w No).h.then_ext hf.ext⟩, rfl⟩; subst hnew; have Hξ1 := Lib.hid hf.ext; have F1 := Lib.hid hf; clear hf
  clear HSp
  obtain ⟨b, rest, rfl, _, _, _, hnc, hcm⟩ := own_block F1.out.own hn1 (by decide)
  have hrow := F1.out.row (by decide)
  obtain ⟨n, hn⟩ : ∃ n, n = ws.length := ⟨_, rfl⟩
  go_upto_region 2 with fail
  rw [← hn] at hrow hn1 hn2 hnc ⊢
  obtain ⟨u0, hu0⟩ : ∃ u, u = ξ1.v := ⟨_, rfl⟩
  rw [← hu0]
  have X0 : Hid (Ext w u0) := by rw [hu0]; exact ξ1.h
  have HR : Hid (SlR strF u0 (some ⟨b, 0, none⟩) n ws) := by rw [hu0]; exact hrow
  have HN := Lib.hid hn
  have hbg : b ≠ g := by have := F1.out.new b rfl; omega
  obtain ⟨G, hG⟩ : ∃ G : Nat → Prop, G = fun b => b = g := ⟨_, rfl⟩
  clear hu0 hn hrow F1 Hξ1
  have HWc : Hid (∀ k s, ws[k]? = some s → ∀ ξ : X u0 G, ξ.v.cell? ⟨b, k, none⟩ = some (S s)) := fun k s hk ξ => by
    have hkn : k < n := by rw [HN.out]; exact (List.getElem?_eq_some_iff.1 hk).1
    obtain ⟨b', o', z, he, hz, hc'⟩ := strs_get HR.out hkn
    injection he with he
    injection he with e1 e2
    subst e1; subst e2
    rw [hk] at hz
    injection hz with hz
    subst hz
    have := hc' (X.here u0 No)
    rw [Nat.zero_add] at this
    have hlt := World.block_lt_of_cell? _ _ this
    exact (ξ.h.cell (p := ⟨b, k, none⟩) hlt (by rw [hG]; exact hbg)).trans this
  obtain ⟨ζ, hζ⟩ : ∃ ζ : X u0 G, ζ.v = u0 := ⟨X.here _ _, rfl⟩
  rw [← hζ]
  have HZ0 : Hid (Ext u0 ζ.v) := by rw [hζ]; exact Only.refl _ _
  have HGq := Lib.hid hG
  clear hζ hG hbg
  obtain ⟨w0, r1, rfl⟩ : ∃ w0 r1, ws = w0 :: r1 := by
    cases ws with
    | nil => rw [HN.out] at hn1; simp at hn1
    | cons w0 r1 => exact ⟨w0, r1, rfl⟩
  have d0 := HWc.out 0 w0 rfl
  have HW0 : Hid (wd cmd 0 = w0) := wd_get (by rw [← HWs.out]; rfl)
  have HNw : Hid (nw cmd = n) := by rw [Hid, nw, ← HWs.out, ← HN.out]
  have HFin : Hid (∀ {t : Ov × Int} (e : Ending) (w' : World), o.run cmd = t → t.1 = o → e = .returned (.int .i64 t.2) → Ext u0 w' → OvRes oR w g (o.run cmd).1 (.int .i64 (o.run cmd).2) e w') := fun {t} e w' h1 h2 h3 h4 => by
    rw [h1, h2]
    exact OvRes.of_ext H.out h3 (X0.out.then_ext h4)
  have HRd : Hid (∀ v a, Ext u0 v → a.length ≤ 1000 → Calls Tryz.prog 111 #[pt g, S a] v fun e w' => e = .returned (.tuple #[S (o.rd a), Value.int .i64 (o.rdF a)]) ∧ Ext v w') := fun v a hv ha => RRead_ov (H.out.ext (X0.out.then_ext hv)) HSm.out a (by unfold maxLen; omega)
  have HWr : Hid (∀ v a s, Ext u0 v → a.length ≤ 1000 → s.length ≤ maxLen → Calls Tryz.prog 110 #[pt g, S a, S s] v (OvRes oR v g (o.wr a s) (.int .i64 (o.wrF a s)))) := fun v a s hv ha hs => RWrite_ov (H.out.ext (X0.out.then_ext hv)) HSm.out a s (by unfold maxLen; omega) hs
  have HWe : Hid (∀ {a s} {v w' : World} {e : Ending}, o.run cmd = (o.wr a s, o.wrF a s) → Ext u0 v → OvRes oR v g (o.wr a s) (.int .i64 (o.wrF a s)) e w' → OvRes oR w g (o.run cmd).1 (.int .i64 (o.run cmd).2) e w') := fun h1 hv h2 => by
    rw [h1]
    exact h2.from (X0.out.then_ext hv)
  by_cases hf : cmd = kFail
  · subst hf
    go_wp2_with fail
    go_ret
    exact HFin.out _ _ (run_fail o) rfl rfl HZ0.out
  have hcf : (cmd == kFail) = false := beq_eq_false_iff_ne.2 hf
  clear hf
  by_cases h0 : w0 = kPut
  · subst h0
    by_cases hn3 : 2 < n
    · obtain ⟨w1, w2, r, rfl⟩ : ∃ w1 w2 r, r1 = w1 :: w2 :: r := by
        have hl := HN.out
        simp only [List.length_cons] at hl
        match r1, hl with
        | w1 :: w2 :: r, _ => exact ⟨w1, w2, r, rfl⟩
        | [], hl => simp at hl <;> omega
        | [_], hl => simp at hl <;> omega
      have d1 := HWc.out 1 w1 rfl
      have HW1 : Hid (wd cmd 1 = w1) := wd_get (by rw [← HWs.out]; rfl)
      have hl1 := HWl.out w1 (by simp)
      have d2 := HWc.out 2 w2 rfl
      have HW2 : Hid (wd cmd 2 = w2) := wd_get (by rw [← HWs.out]; rfl)
      have hl2 := HWl.out w2 (by simp)
      have HRun : Hid (o.run cmd = (o.wr w1 (cmdRest cmd), o.wrF w1 (cmdRest cmd))) := by
        unfold Hid Ov.run
        rw [HW0.out, HNw.out]
        rw [if_pos rfl]; rw [if_pos hn3, HW1.out]
      have hrl : (cmdRest cmd).length ≤ maxLen := by unfold cmdRest maxLen; rw [List.length_drop]; omega
      have hk : 3 + w1.length + 2 ≤ cmd.length := rest_le HWs.out.symm
      have hkp : cmd.drop (3 + w1.length + 2) = cmdRest cmd := by unfold cmdRest; rw [HW0.out, HW1.out]; rfl
      have HW := Lib.hid (fun v hv => HWr.out v w1 (cmdRest cmd) hv hl1 hrl)
      generalize cmdRest cmd = tx at hkp HW HRun
      go_upto_region 6 with fail
      refine Mix.wp_draw [16] 100 (Cl u0 G) (by kernel_rfl) (by kernel_rfl) (Cl.of ζ.h.drew) ?_
      obtain ⟨μ0, hμ0⟩ : ∃ μ0 : X u0 G, μ0.v = ζ.v.drew := ⟨⟨_, ζ.h.drew⟩, rfl⟩
      have HM0 : Hid (Ext u0 μ0.v) := by rw [hμ0]; exact HZ0.out.drew
      rw [← hμ0]
      clear hμ0
      (repeat' (refine Mix.lex_quiet0 rfl rfl rfl ?_; intro K hK; go_big_quiet_op; go_big_quiet_on))
      ((first | refine Mix.lex_goes0 rfl rfl ?_ | refine Mix.lex_goesG rfl rfl rfl (by with_reducible rfl) rfl ?_); intro K hK; go_simp)
      refine (HW.out _ HM0.out).mono ?_
      intro e u hO
      obtain ⟨he, r', h1, h2⟩ := id hO
      subst he
      have HF := Lib.hid (fun e w' h => HWe.out HRun.out HM0.out (show OvRes oR _ g _ _ e w' from h))
      have HO := Lib.hid hO
      have HG2 : Hid (Only G u0 u) := by rw [Hid, HGq.out]; exact HM0.out.any.trans h2 fun _ _ h => h
      refine ⟨_, rfl, hK _ _ (fun _ => Cl.of HG2.out) ?_⟩
      clear hK K h1 h2 hO
      simp only [Act.put, List.setIfInBounds_toArray, List.set_cons_succ, List.set_cons_zero]
      (repeat' (refine Mix.lex_quiet0 rfl rfl rfl ?_; intro K hK; go_big_quiet_op; go_big_quiet_on))
      refine Mix.lex_nil ?_
      go_wp2_with fail
      go_ret
      exact HF.out _ _ HO.out
    · have HRun : Hid (o.run cmd = (o, 4)) := by
        unfold Hid Ov.run
        rw [HW0.out, HNw.out]
        rw [if_pos rfl]; rw [if_neg hn3]
      go_wp2_with fail
      go_ret
      exact HFin.out _ _ HRun.out rfl rfl HZ0.out
  by_cases h5 : w0 = kNeed
  · subst h5
    by_cases hn3 : n = 2
    · subst hn3
      obtain ⟨w1, r, rfl⟩ : ∃ w1 r, r1 = w1 :: r := by
        have hl := HN.out
        simp only [List.length_cons] at hl
        match r1, hl with
        | w1 :: r, _ => exact ⟨w1, r, rfl⟩
        | [], hl => simp at hl <;> omega
      have d1 := HWc.out 1 w1 rfl
      have HW1 : Hid (wd cmd 1 = w1) := wd_get (by rw [← HWs.out]; rfl)
      have hl1 := HWl.out w1 (by simp)
      have HRun : Hid (o.run cmd = (o, o.need w1)) := by
        unfold Hid Ov.run
        rw [HW0.out, HNw.out]
        rw [if_neg (by decide)]; rw [if_neg (by decide)]; rw [if_neg (by decide)]; rw [if_neg (by decide)]; rw [if_neg (by decide)]; rw [if_pos rfl]; rw [if_pos rfl, HW1.out]
      have HNd : Hid (o.need w1 = if o.rdF w1 = 0 then (if o.rd w1 == [] then 7 else 0) else o.rdF w1) := rfl
      have HR1 := Lib.hid (HRd.out _ w1 HZ0.out hl1)
      generalize o.rdF w1 = f at HR1 HNd
      generalize o.rd w1 = t at HR1 HNd
      go_wp2_with fail
      refine HR1.out.mono ?_
      rintro e u ⟨rfl, hu⟩
      have HU := Lib.hid (HZ0.out.then_ext hu)
      clear hu HR1
      by_cases hf : f = 0
      · subst hf
        obtain ⟨e, he⟩ : ∃ e, (t == ([] : Str)) = e := ⟨_, rfl⟩
        rw [he] at HNd
        cases e <;>
        · go_wp2_with fail
          go_ret
          exact HFin.out _ _ (HRun.out.trans (by rw [HNd.out])) rfl rfl HU.out
      · have HNd2 : Hid (o.need w1 = f) := by rw [Hid, HNd.out, if_neg hf]
        have hf0 : (f == 0) = false := by rw [beq_eq_false_iff_ne]; exact hf
        clear hf HNd
        go_wp2_with fail
        go_ret
        exact HFin.out _ _ (HRun.out.trans (by rw [HNd2.out])) rfl rfl HU.out
    · have HRun : Hid (o.run cmd = (o, 4)) := by
        unfold Hid Ov.run
        rw [HW0.out, HNw.out]
        rw [if_neg (by decide)]; rw [if_neg (by decide)]; rw [if_neg (by decide)]; rw [if_neg (by decide)]; rw [if_neg (by decide)]; rw [if_pos rfl]; rw [if_neg hn3]
      have hn4 : ((n : Int) == 2) = false := by rw [beq_eq_false_iff_ne]; omega
      go_wp2_with fail
      go_ret
      exact HFin.out _ _ HRun.out rfl rfl HZ0.out
  by_cases h4 : w0 = kJoin
  · subst h4
    by_cases hn3 : 2 < n
    · obtain ⟨w1, w2, r, rfl⟩ : ∃ w1 w2 r, r1 = w1 :: w2 :: r := by
        have hl := HN.out
        simp only [List.length_cons] at hl
        match r1, hl with
        | w1 :: w2 :: r, _ => exact ⟨w1, w2, r, rfl⟩
        | [], hl => simp at hl <;> omega
        | [_], hl => simp at hl <;> omega
      have d1 := HWc.out 1 w1 rfl
      have HW1 : Hid (wd cmd 1 = w1) := wd_get (by rw [← HWs.out]; rfl)
      have hl1 := HWl.out w1 (by simp)
      have d2 := HWc.out 2 w2 rfl
      have HW2 : Hid (wd cmd 2 = w2) := wd_get (by rw [← HWs.out]; rfl)
      have hl2 := HWl.out w2 (by simp)
      have HRun : Hid (o.run cmd = o.join w1 (w2 :: r)) := by
        unfold Hid Ov.run
        rw [HW0.out, HNw.out]
        rw [if_neg (by decide)]; rw [if_neg (by decide)]; rw [if_neg (by decide)]; rw [if_neg (by decide)]; rw [if_pos rfl]; rw [if_pos hn3, HW1.out, ← HWs.out]; rfl
      have HJn : Hid (o.join w1 (w2 :: r) = if (o.joinT (w2 :: r) []).2 = 0 then (o.wr w1 (o.joinT (w2 :: r) []).1, o.wrF w1 (o.joinT (w2 :: r) []).1) else (o, (o.joinT (w2 :: r) []).2)) := rfl
      have HrlD := Lib.hid (Ov.rd_len HTx.out)
      have HNn := Lib.hid (fun a => Ov.rdF_nonneg o a)
      have hk2 : decide ((2 : Int) < (n : Int)) = true := by rw [decide_eq_true_iff]; omega
      go_wp2_with fail
      go_loopw [9, 10] (fun s i wr => ∃ j : Nat, 2 ≤ j ∧ j ≤ n ∧ i = .int .i64 j ∧ ∃ acc : Str, s = S acc ∧ acc.length ≤ 1000 * j ∧ o.joinT (w2 :: r) [] = o.joinT ((kJoin :: w1 :: w2 :: r).drop j) acc ∧ ∃ ξ : X u0 G, wr = ξ.v ∧ Ext u0 ξ.v) (fun _ i _ => n - (intOf i).toNat)
      case atStart => exact ⟨2, Nat.le_refl _, by omega, rfl, [], rfl, Nat.zero_le _, rfl, ζ, rfl, HZ0.out⟩
      case round =>
        obtain ⟨j, hj2, hj, rfl, acc, rfl, hal, hJ, ξ, rfl, hξ⟩ := hrel
        have HJ := Lib.hid hJ
        have HX := Lib.hid hξ
        clear hJ hξ
        by_cases hlt : j < n
        · obtain ⟨x, hx⟩ : ∃ x, (kJoin :: w1 :: w2 :: r)[j]? = some x := ⟨_, List.getElem?_eq_getElem (by have := HN.out; omega)⟩
          have c0 := HWc.out j x hx
          have hdr : Hid ((kJoin :: w1 :: w2 :: r).drop j = x :: (kJoin :: w1 :: w2 :: r).drop (j + 1)) := by
            obtain ⟨hl, rfl⟩ := List.getElem?_eq_some_iff.1 hx
            exact List.drop_eq_getElem_cons hl
          have HJ2 : Hid (o.joinT (w2 :: r) [] = if o.rdF x = 0 then o.joinT ((kJoin :: w1 :: w2 :: r).drop (j + 1)) (acc ++ o.rd x) else ([], o.rdF x)) := by rw [Hid, HJ.out, hdr.out, Ov.joinT_cons]
          have hxl := HWl.out x (List.mem_of_getElem? hx)
          have hxr := HrlD.out x
          have hnn := HNn.out x
          have HR1 := Lib.hid (HRd.out _ x HX.out hxl)
          generalize o.rdF x = f at HR1 HJ2 hnn
          generalize o.rd x = t at HR1 HJ2 hxr
          clear hx hxl hdr HJ
          go_wp2_with fail
          refine HR1.out.mono ?_
          rintro e u ⟨rfl, hu⟩
          have HX1 : Hid (Ext u0 u) := HX.out.then_ext hu
          obtain ⟨ξ1, rfl⟩ : ∃ ξ : X u0 G, u = ξ.v := ⟨⟨u, HX1.out.any⟩, rfl⟩
          clear hu HR1
          by_cases hf : f = 0
          · have HJ3 : Hid (o.joinT (w2 :: r) [] = o.joinT ((kJoin :: w1 :: w2 :: r).drop (j + 1)) (acc ++ t)) := by rw [Hid, HJ2.out, if_pos hf]
            subst hf
            clear HJ2
            go_wp2_with fail
            go_roundw
            case rel => exact ⟨j + 1, by omega, by omega, by go_num, acc ++ t, rfl, by rw [List.length_append]; omega, HJ3.out, ξ1, rfl, HX1.out⟩
            case measure => simp [intOf]; omega
          · have HN2 : Hid (o.join w1 (w2 :: r) = (o, f)) := by
              rw [Hid, HJn.out, HJ2.out, if_neg hf]
              exact if_neg hf
            have hf1 : 0 < f := by omega
            clear hf HJ2 HJn
            go_wp2_with fail
            go_ret
            exact HFin.out _ _ (HRun.out.trans HN2.out) rfl rfl HX1.out
        · obtain rfl : j = n := by omega
          have e1 : (kJoin :: w1 :: w2 :: r).drop j = [] := List.drop_eq_nil_of_le (by have := HN.out; omega)
          have HN2 : Hid (o.run cmd = (o.wr w1 acc, o.wrF w1 acc)) := by
            rw [Hid, HRun.out, HJn.out, HJ.out, e1]
            rfl
          have HW := Lib.hid (HWr.out _ w1 acc HX.out hl1 (by unfold maxLen; omega))
          have HF := Lib.hid (fun e w' h => HWe.out (e := e) (w' := w') HN2.out HX.out h)
          clear HJn HJ e1
          go_wp2_with fail
          refine HW.out.mono ?_
          intro e u hO
          obtain ⟨he, r', h1, h2⟩ := id hO
          subst he
          have HO := Lib.hid hO
          clear hO h1 h2
          go_wp2_with fail
          go_ret
          exact HF.out _ _ HO.out
    · have HRun : Hid (o.run cmd = (o, 4)) := by
        unfold Hid Ov.run
        rw [HW0.out, HNw.out]
        rw [if_neg (by decide)]; rw [if_neg (by decide)]; rw [if_neg (by decide)]; rw [if_neg (by decide)]; rw [if_pos rfl]; rw [if_neg hn3]
      go_wp2_with fail
      go_ret
      exact HFin.out _ _ HRun.out rfl rfl HZ0.out
  by_cases h1 : w0 = kCopy
  · subst h1
    by_cases hn3 : n = 3
    · subst hn3
      obtain ⟨w1, w2, r, rfl⟩ : ∃ w1 w2 r, r1 = w1 :: w2 :: r := by
        have hl := HN.out
        simp only [List.length_cons] at hl
        match r1, hl with
        | w1 :: w2 :: r, _ => exact ⟨w1, w2, r, rfl⟩
        | [], hl => simp at hl <;> omega
        | [_], hl => simp at hl <;> omega
      have d1 := HWc.out 1 w1 rfl
      have HW1 : Hid (wd cmd 1 = w1) := wd_get (by rw [← HWs.out]; rfl)
      have hl1 := HWl.out w1 (by simp)
      have d2 := HWc.out 2 w2 rfl
      have HW2 : Hid (wd cmd 2 = w2) := wd_get (by rw [← HWs.out]; rfl)
      have hl2 := HWl.out w2 (by simp)
      have HRun : Hid (o.run cmd = o.two w1 w2 id) := by
        unfold Hid Ov.run
        rw [HW0.out, HNw.out]
        rw [if_neg (by decide)]; rw [if_pos rfl]; rw [if_pos rfl, HW1.out, HW2.out]
      have HTw : Hid (o.two w1 w2 (id) = if o.rdF w1 = 0 then (o.wr w2 (id (o.rd w1)), o.wrF w2 (id (o.rd w1))) else (o, o.rdF w1)) := rfl
      have hrl := Ov.rd_len HTx.out w1
      have hnn := Ov.rdF_nonneg o w1
      have HR1 := Lib.hid (HRd.out _ w1 HZ0.out hl1)
      generalize o.rdF w1 = f at HR1 HTw hnn
      generalize o.rd w1 = t at HR1 HTw hrl
      go_wp2_with fail
      refine HR1.out.mono ?_
      rintro e u ⟨rfl, hu⟩
      have HX1 : Hid (Ext u0 u) := HZ0.out.then_ext hu
      obtain ⟨ξ1, rfl⟩ : ∃ ξ : X u0 G, u = ξ.v := ⟨⟨u, HX1.out.any⟩, rfl⟩
      clear hu HR1
      by_cases hf : f = 0
      · have HN2 : Hid (o.run cmd = (o.wr w2 (id t), o.wrF w2 (id t))) := by rw [Hid, HRun.out, HTw.out, if_pos hf]
        subst hf
        have HLn : Hid (∀ j, (id (t.take j)).length ≤ 1000) := fun j => by
          have h1 := id_len (t.take j)
          have h2 := List.length_take_le' j t
          omega
        clear HTw HRun
        go_wp2_with fail
        go_loopw [18, 19] (fun s i wr => ∃ j : Nat, j ≤ t.length ∧ i = .int .i64 j ∧ s = S (id (t.take j)) ∧ wr = ξ1.v) (fun _ i _ => t.length - (intOf i).toNat)
        case atStart => exact ⟨0, Nat.zero_le _, rfl, rfl, rfl⟩
        case round =>
          obtain ⟨j, hj, rfl, rfl, rfl⟩ := hrel
          by_cases hlt : j < t.length
          · have ho := one_at hlt
            have hal := HLn.out j
            have HStep : Hid (id (t.take (j + 1)) = id (t.take j) ++ [t[j]]) := by rw [id, take_one hlt]; rfl
            generalize id (t.take j) = acc at hal HStep
            go_wp2_with fail
            go_roundw
            case rel => exact ⟨j + 1, by omega, by go_num, (by rw [HStep.out]; try rfl), trivial⟩
            case measure => simp [intOf]; omega
          · obtain rfl : j = t.length := by omega
            have hal := HLn.out t.length
            rw [List.take_length] at hal
            have HW := Lib.hid (HWr.out _ w2 (id t) HX1.out hl2 (by unfold maxLen; omega))
            have HF := Lib.hid (fun e w' h => HWe.out (e := e) (w' := w') HN2.out HX1.out h)
            rw [List.take_length]
            generalize id t = acc at HW HF
            go_wp2_with fail
            refine HW.out.mono ?_
            intro e u hO
            obtain ⟨he, r', h1, h2⟩ := id hO
            subst he
            have HO := Lib.hid hO
            clear hO h1 h2
            go_wp2_with fail
            go_ret
            exact HF.out _ _ HO.out
      · have HN2 : Hid (o.run cmd = (o, f)) := by rw [Hid, HRun.out, HTw.out, if_neg hf]
        have hf1 : 0 < f := by omega
        clear hf HTw HRun
        go_wp2_with fail
        go_ret
        exact HFin.out _ _ HN2.out rfl rfl HX1.out
    · have HRun : Hid (o.run cmd = (o, 4)) := by
        unfold Hid Ov.run
        rw [HW0.out, HNw.out]
        rw [if_neg (by decide)]; rw [if_pos rfl]; rw [if_neg hn3]
      have hn4 : ((n : Int) == 3) = false := by rw [beq_eq_false_iff_ne]; omega
      go_wp2_with fail
      go_ret
      exact HFin.out _ _ HRun.out rfl rfl HZ0.out
  by_cases h2 : w0 = kTurn
  · subst h2
    by_cases hn3 : n = 3
    · subst hn3
      obtain ⟨w1, w2, r, rfl⟩ : ∃ w1 w2 r, r1 = w1 :: w2 :: r := by
        have hl := HN.out
        simp only [List.length_cons] at hl
        match r1, hl with
        | w1 :: w2 :: r, _ => exact ⟨w1, w2, r, rfl⟩
        | [], hl => simp at hl <;> omega
        | [_], hl => simp at hl <;> omega
      have d1 := HWc.out 1 w1 rfl
      have HW1 : Hid (wd cmd 1 = w1) := wd_get (by rw [← HWs.out]; rfl)
      have hl1 := HWl.out w1 (by simp)
      have d2 := HWc.out 2 w2 rfl
      have HW2 : Hid (wd cmd 2 = w2) := wd_get (by rw [← HWs.out]; rfl)
      have hl2 := HWl.out w2 (by simp)
      have HRun : Hid (o.run cmd = o.two w1 w2 List.reverse) := by
        unfold Hid Ov.run
        rw [HW0.out, HNw.out]
        rw [if_neg (by decide)]; rw [if_neg (by decide)]; rw [if_pos rfl]; rw [if_pos rfl, HW1.out, HW2.out]
      have HTw : Hid (o.two w1 w2 (List.reverse) = if o.rdF w1 = 0 then (o.wr w2 (List.reverse (o.rd w1)), o.wrF w2 (List.reverse (o.rd w1))) else (o, o.rdF w1)) := rfl
      have hrl := Ov.rd_len HTx.out w1
      have hnn := Ov.rdF_nonneg o w1
      have HR1 := Lib.hid (HRd.out _ w1 HZ0.out hl1)
      generalize o.rdF w1 = f at HR1 HTw hnn
      generalize o.rd w1 = t at HR1 HTw hrl
      go_wp2_with fail
      refine HR1.out.mono ?_
      rintro e u ⟨rfl, hu⟩
      have HX1 : Hid (Ext u0 u) := HZ0.out.then_ext hu
      obtain ⟨ξ1, rfl⟩ : ∃ ξ : X u0 G, u = ξ.v := ⟨⟨u, HX1.out.any⟩, rfl⟩
      clear hu HR1
      by_cases hf : f = 0
      · have HN2 : Hid (o.run cmd = (o.wr w2 (List.reverse t), o.wrF w2 (List.reverse t))) := by rw [Hid, HRun.out, HTw.out, if_pos hf]
        subst hf
        have HLn : Hid (∀ j, (List.reverse (t.take j)).length ≤ 1000) := fun j => by
          have h1 := rev_len (t.take j)
          have h2 := List.length_take_le' j t
          omega
        clear HTw HRun
        go_wp2_with fail
        go_loopw [18, 19] (fun s i wr => ∃ j : Nat, j ≤ t.length ∧ i = .int .i64 j ∧ s = S (List.reverse (t.take j)) ∧ wr = ξ1.v) (fun _ i _ => t.length - (intOf i).toNat)
        case atStart => exact ⟨0, Nat.zero_le _, rfl, rfl, rfl⟩
        case round =>
          obtain ⟨j, hj, rfl, rfl, rfl⟩ := hrel
          by_cases hlt : j < t.length
          · have ho := one_at hlt
            have hal := HLn.out j
            have HStep : Hid (List.reverse (t.take (j + 1)) = [t[j]] ++ List.reverse (t.take j)) := by rw [take_one hlt, List.reverse_append]; rfl
            generalize List.reverse (t.take j) = acc at hal HStep
            go_wp2_with fail
            go_roundw
            case rel => exact ⟨j + 1, by omega, by go_num, (by rw [HStep.out]; try rfl), trivial⟩
            case measure => simp [intOf]; omega
          · obtain rfl : j = t.length := by omega
            have hal := HLn.out t.length
            rw [List.take_length] at hal
            have HW := Lib.hid (HWr.out _ w2 (List.reverse t) HX1.out hl2 (by unfold maxLen; omega))
            have HF := Lib.hid (fun e w' h => HWe.out (e := e) (w' := w') HN2.out HX1.out h)
            rw [List.take_length]
            generalize List.reverse t = acc at HW HF
            go_wp2_with fail
            refine HW.out.mono ?_
            intro e u hO
            obtain ⟨he, r', h1, h2⟩ := id hO
            subst he
            have HO := Lib.hid hO
            clear hO h1 h2
            go_wp2_with fail
            go_ret
            exact HF.out _ _ HO.out
      · have HN2 : Hid (o.run cmd = (o, f)) := by rw [Hid, HRun.out, HTw.out, if_neg hf]
        have hf1 : 0 < f := by omega
        clear hf HTw HRun
        go_wp2_with fail
        go_ret
        exact HFin.out _ _ HN2.out rfl rfl HX1.out
    · have HRun : Hid (o.run cmd = (o, 4)) := by
        unfold Hid Ov.run
        rw [HW0.out, HNw.out]
        rw [if_neg (by decide)]; rw [if_neg (by decide)]; rw [if_pos rfl]; rw [if_neg hn3]
      have hn4 : ((n : Int) == 3) = false := by rw [beq_eq_false_iff_ne]; omega
      go_wp2_with fail
      go_ret
      exact HFin.out _ _ HRun.out rfl rfl HZ0.out
  by_cases h3 : w0 = kSwap
  · subst h3
    by_cases hn3 : n = 5
    · subst hn3
      obtain ⟨w1, w2, w3, w4, r, rfl⟩ : ∃ w1 w2 w3 w4 r, r1 = w1 :: w2 :: w3 :: w4 :: r := by
        have hl := HN.out
        simp only [List.length_cons] at hl
        match r1, hl with
        | w1 :: w2 :: w3 :: w4 :: r, _ => exact ⟨w1, w2, w3, w4, r, rfl⟩
        | [], hl => simp at hl <;> omega
        | [_], hl => simp at hl <;> omega
        | [_, _], hl => simp at hl <;> omega
        | [_, _, _], hl => simp at hl <;> omega
      have d1 := HWc.out 1 w1 rfl
      have HW1 : Hid (wd cmd 1 = w1) := wd_get (by rw [← HWs.out]; rfl)
      have hl1 := HWl.out w1 (by simp)
      have d2 := HWc.out 2 w2 rfl
      have HW2 : Hid (wd cmd 2 = w2) := wd_get (by rw [← HWs.out]; rfl)
      have hl2 := HWl.out w2 (by simp)
      have d3 := HWc.out 3 w3 rfl
      have HW3 : Hid (wd cmd 3 = w3) := wd_get (by rw [← HWs.out]; rfl)
      have hl3 := HWl.out w3 (by simp)
      have d4 := HWc.out 4 w4 rfl
      have HW4 : Hid (wd cmd 4 = w4) := wd_get (by rw [← HWs.out]; rfl)
      have hl4 := HWl.out w4 (by simp)
      by_cases h3 : w3.length = 1
      · by_cases h4 : w4.length = 1
        · obtain ⟨x, rfl⟩ : ∃ x, w3 = [x] := List.length_eq_one_iff.1 h3
          obtain ⟨y, rfl⟩ : ∃ y, w4 = [y] := List.length_eq_one_iff.1 h4
          have HRun : Hid (o.run cmd = o.two w1 w2 (sw [x] [y])) := by
            unfold Hid Ov.run
            rw [HW0.out, HNw.out]
            rw [if_neg (by decide)]; rw [if_neg (by decide)]; rw [if_neg (by decide)]; rw [if_pos rfl]
            rw [HW3.out, HW4.out, if_pos ⟨rfl, rfl, rfl⟩, HW1.out, HW2.out]
          have HTw : Hid (o.two w1 w2 (sw [x] [y]) = if o.rdF w1 = 0 then (o.wr w2 (sw [x] [y] (o.rd w1)), o.wrF w2 (sw [x] [y] (o.rd w1))) else (o, o.rdF w1)) := rfl
          have hrl := Ov.rd_len HTx.out w1
          have hnn := Ov.rdF_nonneg o w1
          have HR1 := Lib.hid (HRd.out _ w1 HZ0.out hl1)
          generalize o.rdF w1 = f at HR1 HTw hnn
          generalize o.rd w1 = t at HR1 HTw hrl
          go_wp2_with fail
          refine HR1.out.mono ?_
          rintro e u ⟨rfl, hu⟩
          have HX1 : Hid (Ext u0 u) := HZ0.out.then_ext hu
          obtain ⟨ξ1, rfl⟩ : ∃ ξ : X u0 G, u = ξ.v := ⟨⟨u, HX1.out.any⟩, rfl⟩
          clear hu HR1
          by_cases hf : f = 0
          · have HN2 : Hid (o.run cmd = (o.wr w2 (sw [x] [y] t), o.wrF w2 (sw [x] [y] t))) := by rw [Hid, HRun.out, HTw.out, if_pos hf]
            subst hf
            have HLn : Hid (∀ j, (sw [x] [y] (t.take j)).length ≤ 1000) := fun j => by
              have h1 := sw_len [x] [y] (t.take j)
              have h2 := List.length_take_le' j t
              omega
            clear HTw HRun
            go_wp2_with fail
            go_loopw [18, 19] (fun s i wr => ∃ j : Nat, j ≤ t.length ∧ i = .int .i64 j ∧ s = S (sw [x] [y] (t.take j)) ∧ wr = ξ1.v) (fun _ i _ => t.length - (intOf i).toNat)
            case atStart => exact ⟨0, Nat.zero_le _, rfl, rfl, rfl⟩
            case round =>
              obtain ⟨j, hj, rfl, rfl, rfl⟩ := hrel
              by_cases hlt : j < t.length
              · have ho := one_at hlt
                have hal := HLn.out j
                have HStep : Hid (sw [x] [y] (t.take (j + 1)) = sw [x] [y] (t.take j) ++ [if [t[j]] = [x] then ([y] : Str).headD 0 else t[j]]) := by rw [take_one hlt, sw_app]; rfl
                generalize sw [x] [y] (t.take j) = acc at hal HStep
                by_cases hx : t[j] = x
                · have HStep2 : Hid (sw [x] [y] (t.take (j + 1)) = acc ++ [y]) := by rw [Hid, HStep.out, if_pos (by rw [hx])]; rfl
                  have he : ([t[j]] == [x]) = true := by rw [hx]; simp
                  generalize [t[j]] = z at ho he
                  clear HStep
                  go_wp2_with fail
                  go_roundw
                  case rel => exact ⟨j + 1, by omega, by go_num, (by rw [HStep2.out]; try rfl), trivial⟩
                  case measure => simp [intOf]; omega
                · have HStep2 : Hid (sw [x] [y] (t.take (j + 1)) = acc ++ [t[j]]) := by rw [Hid, HStep.out, if_neg (by simpa using hx)]
                  have he : ([t[j]] == [x]) = false := by simpa using hx
                  clear HStep
                  go_wp2_with fail
                  go_roundw
                  case rel => exact ⟨j + 1, by omega, by go_num, (by rw [HStep2.out]; try rfl), trivial⟩
                  case measure => simp [intOf]; omega
              · obtain rfl : j = t.length := by omega
                have hal := HLn.out t.length
                rw [List.take_length] at hal
                have HW := Lib.hid (HWr.out _ w2 (sw [x] [y] t) HX1.out hl2 (by unfold maxLen; omega))
                have HF := Lib.hid (fun e w' h => HWe.out (e := e) (w' := w') HN2.out HX1.out h)
                rw [List.take_length]
                generalize sw [x] [y] t = acc at HW HF
                go_wp2_with fail
                refine HW.out.mono ?_
                intro e u hO
                obtain ⟨he, r', h1, h2⟩ := id hO
                subst he
                have HO := Lib.hid hO
                clear hO h1 h2
                go_wp2_with fail
                go_ret
                exact HF.out _ _ HO.out
          · have HN2 : Hid (o.run cmd = (o, f)) := by rw [Hid, HRun.out, HTw.out, if_neg hf]
            have hf1 : 0 < f := by omega
            clear hf HTw HRun
            go_wp2_with fail
            go_ret
            exact HFin.out _ _ HN2.out rfl rfl HX1.out
        · have HRun : Hid (o.run cmd = (o, 4)) := by
            unfold Hid Ov.run
            rw [HW0.out, HNw.out]
            rw [if_neg (by decide)]; rw [if_neg (by decide)]; rw [if_neg (by decide)]; rw [if_pos rfl]
            rw [HW3.out, HW4.out]
            exact if_neg (fun h => h4 h.2.2)
          have hx : ((w4.length : Int) == 1) = false := by rw [beq_eq_false_iff_ne]; omega
          go_wp2_with fail
          go_ret
          exact HFin.out _ _ HRun.out rfl rfl HZ0.out
      · have HRun : Hid (o.run cmd = (o, 4)) := by
          unfold Hid Ov.run
          rw [HW0.out, HNw.out]
          rw [if_neg (by decide)]; rw [if_neg (by decide)]; rw [if_neg (by decide)]; rw [if_pos rfl]
          rw [HW3.out, HW4.out]
          exact if_neg (fun h => h3 h.2.1)
        have hx : ((w3.length : Int) == 1) = false := by rw [beq_eq_false_iff_ne]; omega
        go_wp2_with fail
        go_ret
        exact HFin.out _ _ HRun.out rfl rfl HZ0.out
    · have HRun : Hid (o.run cmd = (o, 4)) := by
        unfold Hid Ov.run
        rw [HW0.out, HNw.out]
        rw [if_neg (by decide)]; rw [if_neg (by decide)]; rw [if_neg (by decide)]; rw [if_pos rfl]
        exact if_neg (fun h => hn3 h.1)
      have hn4 : ((n : Int) == 5) = false := by rw [beq_eq_false_iff_ne]; omega
      go_wp2_with fail
      go_ret
      exact HFin.out _ _ HRun.out rfl rfl HZ0.out
  have q0 : (w0 == kPut) = false := by simpa using h0
  have q1 : (w0 == kCopy) = false := by simpa using h1
  have q2 : (w0 == kTurn) = false := by simpa using h2
  have q3 : (w0 == kSwap) = false := by simpa using h3
  have q4 : (w0 == kJoin) = false := by simpa using h4
  have q5 : (w0 == kNeed) = false := by simpa using h5
  have HRun : Hid (o.run cmd = (o, 4)) := by
    unfold Hid Ov.run
    rw [HW0.out, if_neg h0, if_neg h1, if_neg h2, if_neg h3, if_neg h4, if_neg h5]
    exact if_neg (by simpa using hcf)
  clear h0 h1 h2 h3 h4 h5
  go_wp2_with fail
  go_ret
  exact HFin.out _ _ HRun.out rfl rfl HZ0.out
@[go_sem] theorem rov_build2 (A B C : Option Addr) (n c m d k e : Nat) (w : World) : (Instr.build 126 #[(0, .slice A n c), (2, .slice B m d), (3, .slice C k e)]).run Tryz.prog w =
    .ok (.agg #[.slice A n c, .slice none 0 0, .slice B m d, .slice C k e]) w := run_build w 126 _ _ (by kernel_rfl)
theorem allF_nonneg (xs : List File) (g : Grp) : 0 ≤ (allF xs g).2 := by
  have h : ∀ (cs : List Str) (o : Ov), 0 ≤ (o.runs cs).2 := by
    intro cs
    induction cs with
    | nil => intro o; exact Int.le_refl _
    | cons c cs ih =>
      intro o
      rw [Ov.runs_cons]
      split
      · exact ih _
      · exact Ov.run_nonneg _ _
  unfold allF
  split
  · split <;> simp
  · exact h _ _
set_option maxRecDepth 100000 in
set_option maxHeartbeats 2000000 in
theorem RAll_f {w : World} {A : Option Addr} {n c : Nat} {xs : List File} (h1 : SlR fileF w A n xs) (hn : n ≤ 10000) (hr : Rise fk xs) (hxt : ∀ f ∈ xs, f.2.length ≤ 1000) {v : GrpV} {g : Grp} (hg : GrpR w v g) (hl : g.Lim) :
    Calls Tryz.prog 49 #[.slice A n c, grpV v g] w fun e w' => ∃ A' c', e = .returned (.tuple #[.slice A' (allF xs g).1.length c', .int .i64 (allF xs g).2]) ∧ SlR fileF w' A' (allF xs g).1.length (allF xs g).1 ∧ Ext w w' ∧ ∀ b o, A' = some ⟨b, o, none⟩ → 0 < (allF xs g).1.length → w.heap.size ≤ b := by
  obtain ⟨tA, tc, nA, nc, cA, cc⟩ := v
  obtain ⟨w0, hw0⟩ : ∃ w0, w0 = w.alloc (.cells (grpCs ⟨tA, tc, nA, nc, cA, cc⟩ g) 46) := ⟨_, rfl⟩
  obtain ⟨w1, hw1⟩ : ∃ w1, w1 = w0.alloc (.cells #[.slice A n c, .slice none 0 0, .slice nA g.needs.length nc, .slice tA g.targets.length tc] oR) := ⟨_, rfl⟩
  have hx0 : Ext w w0 := by rw [hw0]; exact (Only.refl No w).alloc _
  have hx1 : Ext w0 w1 := by rw [hw1]; exact (Only.refl No w0).alloc _
  have hB0 : Cs w0 w.heap.size 46 (grpCs ⟨tA, tc, nA, nc, cA, cc⟩ g) := by rw [hw0]; exact Cs.new _ _ _
  have hB : Cs w1 w.heap.size 46 (grpCs ⟨tA, tc, nA, nc, cA, cc⟩ g) := hB0.keep hx1 id
  have hz : w0.heap.size = w.heap.size + 1 := by rw [hw0]; simp
  have hne : w.heap.size ≠ w.heap.size + 1 := by omega
  obtain ⟨p, hp⟩ : ∃ p, p = w.heap.size + 1 := ⟨_, rfl⟩
  have HPp : Hid (w.heap.size ≤ p) := by rw [hp]; exact Nat.le_succ _
  have hlen := h1.1
  subst hlen
  have hO : OvAt oR w1 p ⟨A, c, none, 0, nA, nc, tA, tc⟩ (ov0 xs g) := by
    refine ⟨?_, (h1.ext hx0).ext hx1, SlR.none_, (hg.n.ext hx0).ext hx1, (hg.t.ext hx0).ext hx1, fun b o' e => by cases e⟩
    rw [hw1, hp, ← hz]
    exact Cs.new _ _ _
  have e0 : w0.cell? ⟨w.heap.size, 0, none⟩ = some (.slice tA g.targets.length tc) := hB0.cell 0
  have e1 : w0.cell? ⟨w.heap.size, 1, none⟩ = some (.slice nA g.needs.length nc) := hB0.cell 1
  obtain ⟨G, hG⟩ : ∃ G : Nat → Prop, G = fun b => b = p := ⟨_, rfl⟩
  have d0 : ∀ ξ : X w1 G, ξ.v.cell? ⟨w.heap.size, 0, none⟩ = some (.slice tA g.targets.length tc) := hB.x (by rw [hG, hp]; exact hne) 0
  have d2 : ∀ ξ : X w1 G, ξ.v.cell? ⟨w.heap.size, 2, none⟩ = some (.slice cA g.cmds.length cc) := hB.x (by rw [hG, hp]; exact hne) 2
  have HX0 := Lib.hid (hx0.then_ext hx1)
  have HGr := Lib.hid ((hg.ext hx0).ext hx1)
  have HGq := Lib.hid hG
  have ht1 := hl.t
  have ht2 := hl.n
  have ht3 := hl.c
  have HLl := Lib.hid hl.l
  have HA : Hid (allF xs g = if ((ov0 xs g).runs g.cmds).2 = 0 then (if ((ov0 xs g).runs g.cmds).1.own.length < g.targets.length then ([], 5) else (((ov0 xs g).runs g.cmds).1.own, 0)) else ([], ((ov0 xs g).runs g.cmds).2)) := rfl
  have HSm : Hid (∀ k o, k ≤ 10000 → Ov.Fit xs g.needs g.targets k o → o.Small ∧ o.Tx) := fun k o hk hf => ⟨hf.small (by omega) (by omega) (by omega) hk hr, hf.txs hxt⟩
  have HF0 := Lib.hid (ov0_fit xs g)
  obtain ⟨o0, ho0⟩ : ∃ o0, o0 = ov0 xs g := ⟨_, rfl⟩
  rw [← ho0] at HA HF0 hO
  have HO0 := Lib.hid hO
  generalize allF xs g = R at HA ⊢
  have HLt : Hid (∀ b o, cA = some ⟨b, o, none⟩ → 0 < g.cmds.length → b ≠ p) := fun b o he hp' => (hg.c.ext hx0).ext hx1 |>.far strF_head hO.cs b o he hp'
  have HP : w.heap.size < p := by omega
  have HXG : Hid (∀ ξ : X w1 G, Ext w ξ.v) := fun ξ => HX0.out.trans (G := G) ξ.h fun b hb e => by
    rw [HGq.out] at e
    have e : b = p := e
    omega
  clear hB hB0 hx0 hx1 hg hl h1 hr hxt ho0 hO hG
  unfold grpCs at hw0
  show Calls _ _ #[_, .agg #[.slice tA g.targets.length tc, .slice nA g.needs.length nc, .slice cA g.cmds.length cc, .bool g.phony]] _ _
  go_enter Tryz.func49, Tryz.ntmps49
  go_upto_region 1 with fail
  rw [← hw0]
  clear hw0
  go_upto_region 2 with fail
  rw [← hw1, ← hp]
  clear hw1
  obtain ⟨ζ, hζ⟩ : ∃ ζ : X w1 G, ζ.v = w1 := ⟨X.here _ _, rfl⟩
  rw [← hζ]
  have HO1 : Hid (OvAt oR ζ.v p ⟨A, c, none, 0, nA, nc, tA, tc⟩ o0) := by rw [hζ]; exact HO0.out
  clear hζ hne hz hp e0 e1
  go_wp2_with fail
  go_loopw [7] (fun i wr => ∃ j : Nat, j ≤ g.cmds.length ∧ i = .int .i64 j ∧ ∃ r' o', OvAt oR wr p r' o' ∧ o'.Fit xs g.needs g.targets j ∧ o0.runs g.cmds = o'.runs (g.cmds.drop j) ∧ ∃ ξ : X w1 G, wr = ξ.v) (fun i _ => g.cmds.length - (intOf i).toNat)
  case atStart => exact ⟨0, Nat.zero_le _, rfl, _, o0, HO1.out, HF0.out, rfl, ζ, rfl⟩
  case round =>
    obtain ⟨j, hj, rfl, r', o', hO, hF, hJ, ξ, rfl⟩ := hrel
    have HO := Lib.hid hO
    have HF := Lib.hid hF
    have HJ := Lib.hid hJ
    clear hO hF hJ
    obtain ⟨hsm, htx⟩ := HSm.out j o' (by omega) HF.out
    by_cases hlt : j < g.cmds.length
    · obtain ⟨b, o, x, hBe, hx, c0'⟩ := strs_get HGr.out.c hlt
      have hbp := HLt.out b o hBe (by omega)
      have c0 : ∀ ξ : X w1 G, ξ.v.cell? ⟨b, o + j, none⟩ = some (S x) := fun ξ => by
        have h := c0' (X.here _ _)
        exact (ξ.h.cell (p := ⟨b, o + j, none⟩) (World.block_lt_of_cell? _ _ h) (by rw [HGq.out]; exact hbp)).trans h
      have hdr : Hid (g.cmds.drop j = x :: g.cmds.drop (j + 1)) := by
        obtain ⟨hl, rfl⟩ := List.getElem?_eq_some_iff.1 hx
        exact List.drop_eq_getElem_cons hl
      have hxl := HLl.out x (List.mem_of_getElem? hx)
      have HRun := Lib.hid (RRun_c HO.out hsm htx x hxl)
      have HJ2 : Hid (o0.runs g.cmds = if (o'.run x).2 = 0 then (o'.run x).1.runs (g.cmds.drop (j + 1)) else ((o'.run x).1, (o'.run x).2)) := by rw [Hid, HJ.out, hdr.out, Ov.runs_cons]
      have HF2 := Lib.hid (HF.out.run x)
      have hnn := o'.run_nonneg x
      generalize o'.run x = y at HRun HJ2 HF2 hnn
      obtain ⟨o2, f⟩ := y
      dsimp only at HRun HJ2 HF2 hnn
      subst hBe
      clear hx hdr hxl HJ hsm htx c0' hbp
      go_wp2_with fail
      refine HRun.out.mono ?_
      rintro e u ⟨rfl, r2, h1, h2⟩
      have HO2 := Lib.hid h1
      have HX2 : Hid (Only G w1 u) := by rw [Hid, HGq.out]; exact (by rw [← HGq.out]; exact ξ.h : Only (fun b => b = p) w1 ξ.v).trans h2 fun _ _ h => h
      clear h1 h2 HRun
      obtain ⟨ξ2, rfl⟩ : ∃ ξ : X w1 G, u = ξ.v := ⟨⟨u, HX2.out⟩, rfl⟩
      by_cases hf : f = 0
      · have HJ3 : Hid (o0.runs g.cmds = o2.runs (g.cmds.drop (j + 1))) := by rw [Hid, HJ2.out, if_pos hf]
        subst hf
        clear HJ2
        go_wp2_with fail
        go_roundw
        case rel => exact ⟨j + 1, by omega, by go_num, r2, o2, HO2.out, HF2.out, HJ3.out, ξ2, rfl⟩
        case measure => simp [intOf]; omega
      · have HRes : Hid (R = ([], f)) := by
          rw [Hid, HA.out, HJ2.out, if_neg hf]
          exact if_neg hf
        have hf1 : 0 < f := by omega
        clear HJ2 HA hf
        go_wp2_with fail
        go_ret2
        rw [HRes.out]
        exact ⟨none, 0, rfl, SlR.none_, HXG.out ξ2, fun b o e => by cases e⟩
    · obtain rfl : j = g.cmds.length := by omega
      have HJ2 : Hid (o0.runs g.cmds = (o', 0)) := by rw [Hid, HJ.out, List.drop_length]; rfl
      have hol := hsm.own
      have HA2 : Hid (R = if o'.own.length < g.targets.length then ([], 5) else (o'.own, 0)) := by
        rw [Hid, HA.out, HJ2.out]
        exact if_pos rfl
      have HRow := Lib.hid HO.out.own
      have HNw := Lib.hid HO.out.nw
      have c1 : ∀ ξ' : X ξ.v No, ξ'.v.cell? ⟨p, 1, none⟩ = some (.slice r'.oA o'.own.length r'.oc) := HO.out.cs.x id 1
      have d0' : ∀ ξ' : X ξ.v No, ξ'.v.cell? ⟨w.heap.size, 0, none⟩ = some (.slice tA g.targets.length tc) := fun ξ' => d0 ⟨ξ'.v, ξ.h.then_ext ξ'.h⟩
      have HXe := Lib.hid (HXG.out ξ)
      generalize o'.own = ys at HRow HNw hol HA2 c1
      clear HJ HJ2 HA hsm htx HO HXG HGq HF
      go_upto_region 8 with fail
      refine Mix.wp_draw [] 100 (Cl ξ.v No) (by kernel_rfl) (by kernel_rfl) (Cl.of (Only.refl _ _).drew) ?_
      obtain ⟨μ, hμ⟩ : ∃ μ : X ξ.v No, μ.v = ξ.v.drew := ⟨⟨_, (Only.refl _ _).drew⟩, rfl⟩
      rw [← hμ]
      clear hμ
      (repeat' (refine Mix.lex_quiet0 rfl rfl rfl ?_; intro K hK; go_big_quiet_op; go_big_quiet_on))
      refine Mix.lex_nil ?_
      by_cases hlt2 : ys.length < g.targets.length
      · rw [if_pos hlt2] at HA2
        go_wp2_with fail
        go_ret2
        rw [HA2.out]
        exact ⟨none, 0, rfl, SlR.none_, HXe.out.then_ext μ.h, fun b o e => by cases e⟩
      · rw [if_neg hlt2] at HA2
        go_wp2_with fail
        go_ret2
        rw [HA2.out]
        exact ⟨r'.oA, r'.oc, rfl, HRow.out.ext μ.h, HXe.out.then_ext μ.h, fun b o e hl => Nat.le_trans HPp.out (Nat.le_of_lt (HNw.out b o e hl))⟩
end Go.Proofs.YtnhaekifcieeoaaGreatDoor
