/- Put together: Gx8, Gx9, MkW, Gxb, Ton, Grb. -/
import Derived.Test.YtnhaekifcieeoaaGreatDoorPk22
import Derived.Test.YtnhaekifcieeoaaGreatDoorPk17
import Derived.Test.YtnhaekifcieeoaaGreatDoorPk03
import Derived.Test.YtnhaekifcieeoaaGreatDoorPk09
import Derived.Test.YtnhaekifcieeoaaGreatDoorPk16
import Derived.Test.YtnhaekifcieeoaaGreatDoorPk11
import Derived.Test.YtnhaekifcieeoaaGreatDoorPk18
namespace Go.Proofs.YtnhaekifcieeoaaGreatDoor
open Go Go.RowKit
def VisRes (w u : World) (g : Nat) (v : MkV) (m : Mk) (l : List File) (lA : Option Addr) (lc : Nat) (F : Nat → Prop) (way : List Str) (r : List Grp × Int) (e : Ending) (w' : World) : Prop :=
  e = .returned (errV r.2) ∧ Only F u w' ∧ (r.2 = 0 → ∃ (a : GrwA) (done : List Str) (gs : List (RulA × Grp)), Gw w w' g v m lA lc l.length a way done gs ∧ gs.map (·.2) = r.1 ∧ DoneOk m l done r.1 ∧ (∀ x ∈ gs, x.2.targets.length ≤ 2) ∧ gs.length ≤ 10 ∧ ∀ q, Gfp g a way.length done.length gs.length q → F q ∨ u.heap.size ≤ q)
theorem Gw.fp_lt {w u : World} {g : Nat} {v : MkV} {m : Mk} {lA : Option Addr} {lc ll : Nat} {a : GrwA} {way done : List Str} {gs : List (RulA × Grp)} (h : Gw w u g v m lA lc ll a way done gs) : ∀ q, Gfp g a way.length done.length gs.length q → q < u.heap.size := by
  rintro q (rfl | e | e | e)
  · exact h.cs.lt
  · obtain ⟨_, hc⟩ := own_cs h.fw.own e; exact hc.lt
  · obtain ⟨_, hc⟩ := own_cs h.fd.own e; exact hc.lt
  · obtain ⟨_, hc⟩ := own_cs h.fo.own e; exact hc.lt
theorem Gfp_eq (g : Nat) (a : GrwA) (n d o n' d' o' : Nat) : Gfp g a n d o = Gfp g a n' d' o' := by
  have h : ∀ (A : Option Addr) (n n' c : Nat), (Value.slice A n c).ownBlock = (Value.slice A n' c).ownBlock := fun A n n' c => by cases A <;> rfl
  unfold Gfp
  rw [h a.wA n n', h a.dA d d', h a.oA o o']
set_option maxRecDepth 100000 in
set_option maxHeartbeats 8000000 in
theorem visit_c {w : World} (hml : Ml w) {v : MkV} {rs : List (RulA × Rul)} {m : Mk} {lA : Option Addr} {lc : Nat} {l : List File} (hmk : MakeR w v rs m) (hfl : SlR fileF w lA l.length l) (hgb : GBd m l) (g : Nat) (goal : Str) (hcb : ∀ x ∈ candF m l goal, x.length ≤ 200) :
    ∀ (f : Nat), f ≤ 100 → ∀ (u : World) (a : GrwA) (way done : List Str) (gs : List (RulA × Grp)) (name : Str), Gw w u g v m lA lc l.length a way done gs → DoneOk m l done (gs.map (·.2)) → (∀ x ∈ gs, x.2.targets.length ≤ 2) → gs.length ≤ 10 → way.length ≤ 2 * (100 - f) → name ∈ candF m l goal → leftF (candF m l goal) way < f →
      Calls Tryz.prog 37 #[.pointer (some ⟨g, 0, none⟩), S name] u (VisRes w u g v m l lA lc (Gfp g a way.length done.length gs.length) way (visitF m l f way (gs.map (·.2)) name)) := by
  intro f
  induction f with
  | zero => intro _ u a way done gs name _ _ _ _ _ _ hlt; omega
  | succ f ih =>
    intro hf u a way done gs name hG hD ht2 hg10 hwl hcn hlt
    have hnl : name.length ≤ 200 := hcb name hcn
    obtain ⟨F, hF⟩ : ∃ F, F = Gfp g a way.length done.length gs.length := ⟨_, rfl⟩
    rw [← hF]
    have HF := Lib.hid hF
    have HG := Lib.hid hG
    have HD := Lib.hid hD
    have HML := Lib.hid hml
    have HMK := Lib.hid (And.intro hmk hfl)
    have HGB := Lib.hid hgb
    have HI := Lib.hid ih
    have HLt := Lib.hid (And.intro hlt hcn)
    have hdl : done.length ≤ l.length + 20 := hD.len (by rw [List.length_map]; exact hg10) (by
      intro x hx
      obtain ⟨y, hy, rfl⟩ := List.mem_map.1 hx
      exact ht2 y hy)
    have HT2 := Lib.hid ht2
    have hln := hgb.n
    have HCw := Lib.hid (Contains_c (c := a.wc) (hG.fw.row (by decide)) (by omega) name)
    have HCd := Lib.hid (fun u' (hx : Ext u u') => Contains_c (c := a.dc) ((hG.ext hx).fd.row (by decide)) (by omega) name)
    have hHere : Hid (Gw w u g v m lA lc l.length a way done gs ∧ gs.map (·.2) = gs.map (·.2) ∧ DoneOk m l done (gs.map (·.2)) ∧ (∀ x ∈ gs, x.2.targets.length ≤ 2) ∧ gs.length ≤ 10) := ⟨hG, rfl, hD, ht2, hg10⟩
    have k4 : u.cell? ⟨g, 4, none⟩ = some (.slice a.wA way.length a.wc) := hG.cs.cell 4
    clear hF hG hD hml hmk hfl hgb ih hlt hcn ht2
    obtain ⟨q, hq⟩ : ∃ q, q = inS way name := ⟨_, rfl⟩
    rw [← hq] at HCw
    have HQ := Lib.hid hq
    clear hq
    go_enter Tryz.func37, Tryz.ntmps37
    go_wp2_with fail
    refine HCw.out.mono ?_
    rintro e u1 ⟨rfl, hx1⟩
    have X1 := Lib.hid hx1
    have G1 := Lib.hid (HG.out.ext hx1)
    clear hx1 HCw k4
    cases q with
    | true =>
      go_wp2_with fail
      go_ret
      have hv : visitF m l (f + 1) way (gs.map (·.2)) name = (gs.map (·.2), 8) := by rw [visitF, if_pos HQ.out.symm]
      rw [hv]
      exact ⟨rfl, Only.any X1.out, fun h => absurd (show (8 : Int) = 0 from h) (by decide)⟩
    | false =>
      have HD1 := Lib.hid (HCd.out u1 X1.out)
      have k5 : u1.cell? ⟨g, 5, none⟩ = some (.slice a.dA done.length a.dc) := G1.out.cs.cell 5
      obtain ⟨q2, hq2⟩ : ∃ q, q = inS done name := ⟨_, rfl⟩
      rw [← hq2] at HD1
      have HQ2 := Lib.hid hq2
      clear hq2 HCd
      go_wp2_with fail
      refine HD1.out.mono ?_
      rintro e u2 ⟨rfl, hx2⟩
      have X2 := Lib.hid (X1.out.then_ext hx2)
      have G2 := Lib.hid (G1.out.ext hx2)
      clear hx2 HD1 k5 G1
      cases q2 with
      | true =>
        go_wp2_with fail
        go_ret
        rw [visit_done HD.out HQ.out.symm HQ2.out.symm]
        refine ⟨rfl, Only.any X2.out, fun _ => ⟨a, done, gs, G2.out, rfl, HD.out, HT2.out, hg10, fun q hq => .inl (by rw [HF.out]; exact hq)⟩⟩
      | false =>
        have HMf : Hid ((makerF (gs.map (·.2)) name).isSome = false) := not_done HD.out HQ2.out.symm
        have M2 : Hid (GrM u2 g v rs m lA lc l) := ⟨G2.out.cs.cell 0, G2.out.cs.cell 1, G2.out.cs.cell 2, G2.out.cs.cell 3, HMK.out.1.ext G2.out.x, HMK.out.2.ext G2.out.x⟩
        have HRu := Lib.hid (rule_c (HML.out.ext G2.out.x) M2.out HGB.out name hnl)
        obtain ⟨o, ho⟩ : ∃ o, o = ruleF m l name := ⟨_, rfl⟩
        rw [← ho] at HRu
        have HO := Lib.hid ho
        clear ho
        go_wp2_with fail
        refine HRu.out.mono ?_
        rintro e u3 h3
        clear HRu
        cases o with
        | none =>
          obtain ⟨rfl, hx3⟩ := h3
          obtain ⟨u4, hu4⟩ : ∃ u, u = u3.alloc (.cells #[.slice none 0 0, .slice none 0 0, .slice none 0 0, .bool false] grpT) := ⟨_, rfl⟩
          have X4 : Hid (Ext u2 u4) := by rw [hu4]; exact hx3.then_ext ((Only.refl No _).alloc _)
          clear hx3
          go_upto_region 7 with fail
          rw [← hu4]
          clear hu4
          have M4 := Lib.hid (M2.out.ext X4.out)
          have G4 := Lib.hid (G2.out.ext X4.out)
          have k3 : u4.cell? ⟨g, 3, none⟩ = some (.slice lA l.length lc) := M4.out.c3
          have HGt := Lib.hid (Get_c (c := lc) M4.out.fl (by omega) name HGB.out.o)
          obtain ⟨q3, hq3⟩ : ∃ q, q = isF l name := ⟨_, rfl⟩
          rw [show getB name l = q3 from hq3.symm] at HGt
          have HQ3 := Lib.hid hq3
          clear hq3 M2 G2
          go_wp2_with fail
          refine HGt.out.mono ?_
          rintro e u5 ⟨rfl, hx5⟩
          have X5 := Lib.hid (X2.out.then_ext (X4.out.then_ext hx5))
          have G5 := Lib.hid (G4.out.ext hx5)
          clear hx5 HGt k3 G4 M4
          have hv : Hid (visitF m l (f + 1) way (gs.map (·.2)) name = if q3 = true then (gs.map (·.2), 0) else (gs.map (·.2), 5)) := by
            rw [Hid, visitF, if_neg (by rw [← HQ.out]; decide), if_neg (by rw [HMf.out]; decide), ← HO.out, HQ3.out]
          cases q3 with
          | false =>
            go_wp2_with fail
            go_ret
            rw [hv.out]
            exact ⟨rfl, Only.any X5.out, fun h => absurd (show (5 : Int) = 0 from h) (by decide)⟩
          | true =>
            have HN : Hid (DoneOk m l (done ++ [name]) (gs.map (·.2))) := HD.out.file (by have := HQ2.out; simpa [inS] using this.symm) HQ3.out.symm HO.out.symm
            obtain ⟨F2, hF2⟩ : ∃ F2 : Nat → Prop, F2 = fun q => (Value.slice a.dA done.length a.dc).ownBlock = some q := ⟨_, rfl⟩
            have f2g : ¬ F2 g := by
              rw [hF2]
              exact fun e => own_ne_cs G5.out.fd.own G5.out.cs (by decide) _ e rfl
            have k5 : ∀ ξ : X u5 F2, ξ.v.cell? ⟨g, 5, none⟩ = some (.slice a.dA done.length a.dc) := G5.out.cs.x f2g 5
            have HF2 := Lib.hid hF2
            clear hF2 f2g
            go_upto_region 10 with fail
            refine Mix.wp_plain [6, 7, 10] (Cl u5 F2) (Cl.of (Only.refl _ _)) ?_
            (repeat' (refine Mix.lex_quiet0 rfl rfl rfl ?_; intro K hK; go_big_quiet_op; go_big_quiet_on))
            ((first | refine Mix.lex_goes0 rfl rfl ?_ | refine Mix.lex_goesG rfl rfl rfl (by with_reducible rfl) rfl ?_); intro K hK; go_simp)
            have G6 := Lib.hid (G5.out.ext ((Only.refl No u5).alloc (.cells #[S name] 9)))
            have O6 : Hid (Only F2 u5 (u5.alloc (.cells #[S name] 9))) := (Only.refl _ _).alloc _
            refine hK _ _ (fun _ => Cl.of O6.out) ?_
            clear hK K
            simp only [Act.put, List.setIfInBounds_toArray, List.set_cons_succ, List.set_cons_zero]
            refine Mix.lex_goes0 rfl rfl ?_
            intro K hK
            refine goes_append (v := .slice a.dA done.length a.dc) (n := done.length) (xs := done.flatMap strF.enc) st_ty rfl rfl rfl G6.out.fd.own (rd_one u5 _ [S name]) (by simp [Value.oneCell']) (by omega) ?_
            intro A' c' w5 hown5 hg5 hb5
            have P7 := Lib.hid (G6.out.growD (ts := [name]) hown5 hg5 hb5)
            have O7 : Hid (Only F2 u5 w5) := O6.out.grown hg5 fun g hg => .inr (by rw [HF2.out]; exact hg)
            refine hK _ _ (fun _ => Cl.of O7.out) ?_
            clear hK K
            simp only [Act.put, List.setIfInBounds_toArray, List.set_cons_succ, List.set_cons_zero]
            have C7 := G6.out.cs.keep ((Only.refl (fun b => (Value.slice a.dA done.length a.dc).ownBlock = some b) _).grown hg5 fun g hg => .inr hg) (fun e => own_ne_cs G6.out.fd.own G6.out.cs (by decide) _ e rfl)
            have y0 : w5.cell? ⟨g, 5, none⟩ = some (.slice a.dA done.length a.dc) := C7.cell 5
            have z0 := C7.frozen 5
            have HB5 := Lib.hid hb5
            have X7 : Hid (Only F u (w5.setCell ⟨g, 5, none⟩ (.slice A' (done.length + 1 : Nat) c'))) := by
              rw [Hid, HF.out]
              exact ((Only.any X5.out).trans O7.out fun q _ e => by rw [HF2.out] at e; exact .inr (.inr (.inl e))).setCell (p := ⟨g, 5, none⟩) (.inr (.inl rfl)) _
            clear C7 hown5 hg5 hb5
            (repeat' (refine Mix.lex_quiet0 rfl rfl rfl ?_; intro K hK; go_big_quiet_op; go_big_quiet_on))
            ((first | refine Mix.lex_goes0 rfl rfl ?_ | refine Mix.lex_goesG rfl rfl rfl (by with_reducible rfl) rfl ?_); intro K hK; go_simp)
            refine hK _ _ (fun hne => absurd rfl hne) ?_
            clear hK K y0 z0
            simp only [Act.put, List.setIfInBounds_toArray, List.set_cons_succ, List.set_cons_zero]
            refine Mix.lex_nil ?_
            go_wp2_with fail
            go_ret
            rw [hv.out]
            refine ⟨rfl, X7.out, fun _ => ⟨_, _, gs, P7.out, rfl, HN.out, HT2.out, hg10, ?_⟩⟩
            rintro q (e | e | e | e)
            · exact .inl (by rw [HF.out]; exact .inl e)
            · exact .inl (by rw [HF.out]; exact .inr (.inl e))
            · rw [List.length_append] at e
              rcases HB5.out with hb | hb
              · exact .inl (by rw [HF.out]; exact .inr (.inr (.inl (hb.symm.trans e))))
              · have h3 : some (u5.alloc (.cells #[S name] 9)).heap.size = some q := hb.symm.trans e
                injection h3 with h3
                exact .inr (by rw [← h3]; exact (X5.out.alloc _).size)
            · exact .inl (by rw [HF.out]; exact .inr (.inr (.inr e)))
        | some G =>
          obtain ⟨x, rfl, f1, f2, f3, hx3⟩ := h3
          obtain ⟨u4, hu4⟩ : ∃ u, u = u3.alloc (.cells #[.slice x.tA G.targets.length x.tc, .slice x.nA G.needs.length x.nc, .slice x.cA G.cmds.length x.cc, .bool G.phony] grpT) := ⟨_, rfl⟩
          obtain ⟨bx, hbx⟩ : ∃ b, b = u3.heap.size := ⟨_, rfl⟩
          have x4 : Ext u3 u4 := by rw [hu4]; exact (Only.refl No _).alloc _
          have X4 : Hid (Ext u2 u4) := hx3.then_ext x4
          have CX : Hid (Cs u4 bx grpT #[.slice x.tA G.targets.length x.tc, .slice x.nA G.needs.length x.nc, .slice x.cA G.cmds.length x.cc, .bool G.phony]) := by rw [hu4, hbx]; exact Cs.new _ _ _
          have hfp : ∀ q, F q → q < u2.heap.size := fun q hq => G2.out.fp_lt q (by rw [← HF.out]; exact hq)
          have RT := Lib.hid ((RbS.fresh f1 hfp).ext x4)
          have RN := Lib.hid ((RbS.fresh f2 hfp).ext x4)
          have RC := Lib.hid ((RbS.fresh f3 hfp).ext x4)
          have BX : Hid (¬ F bx) := fun e => by have := hfp bx e; have := hx3.size; omega
          go_upto_region 12 with fail
          rw [← hu4, ← hbx]
          clear hu4 hbx x4 hx3 f1 f2 f3 hfp
          have G4 := Lib.hid (G2.out.ext X4.out)
          obtain ⟨F2, hF2⟩ : ∃ F2 : Nat → Prop, F2 = fun q => (Value.slice a.wA way.length a.wc).ownBlock = some q := ⟨_, rfl⟩
          have f2g : ¬ F2 g := by
            rw [hF2]
            exact fun e => own_ne_cs G4.out.fw.own G4.out.cs (by decide) _ e rfl
          have f2x : ¬ F2 bx := by
            rw [hF2]
            exact fun e => own_ne_cs G4.out.fw.own CX.out (by decide) _ e rfl
          have k4 : ∀ ξ : X u4 F2, ξ.v.cell? ⟨g, 4, none⟩ = some (.slice a.wA way.length a.wc) := G4.out.cs.x f2g 4
          have k0 : ∀ ξ : X u4 F2, ξ.v.cell? ⟨bx, 0, none⟩ = some (.slice x.tA G.targets.length x.tc) := CX.out.x f2x 0
          have HF2 := Lib.hid hF2
          clear hF2 f2g f2x
          refine Mix.wp_draw [7, 10] 10 (Cl u4 F2) (by kernel_rfl) (by kernel_rfl) (Cl.of (Only.refl _ _).drew) ?_
          obtain ⟨hb1, hb2, hb3⟩ := ruleF_b HGB.out HO.out.symm
          (repeat' (refine Mix.lex_quiet0 rfl rfl rfl ?_; intro K hK; go_big_quiet_op; go_big_quiet_on))
          have xd : Ext u4 u4.drew := (Only.refl No _).drew
          have GD := Lib.hid (G4.out.ext xd)
          have TD := Lib.hid (RT.out.ext xd)
          have CD := Lib.hid (CX.out.keep xd id)
          refine Mix.lex_goes0 rfl rfl ?_
          intro K hK
          refine goes_append (v := .slice a.wA way.length a.wc) (n := way.length) (xs := way.flatMap strF.enc) st_ty rfl rfl rfl GD.out.fw.own (TD.out.here.rd (by decide)) (str_enc1 _) (by omega) ?_
          intro A' c' w5 hown5 hg5 hb5
          have P7 := Lib.hid (GD.out.growW (ts := G.targets) hown5 hg5 hb5)
          have O7 : Hid (Only F2 u4 w5) := (Only.refl _ _).drew.grown hg5 fun g hg => .inr (by rw [HF2.out]; exact hg)
          refine hK _ _ (fun _ => Cl.of O7.out) ?_
          clear hK K
          simp only [Act.put, List.setIfInBounds_toArray, List.set_cons_succ, List.set_cons_zero]
          have C7 := GD.out.cs.keep ((Only.refl (fun b => (Value.slice a.wA way.length a.wc).ownBlock = some b) _).grown hg5 fun g hg => .inr hg) (fun e => own_ne_cs GD.out.fw.own GD.out.cs (by decide) _ e rfl)
          have y0 : w5.cell? ⟨g, 4, none⟩ = some (.slice a.wA way.length a.wc) := C7.cell 4
          have z0 := C7.frozen 4
          have HB5 := Lib.hid hb5
          clear C7 hown5 hg5 hb5 xd
          (repeat' (refine Mix.lex_quiet0 rfl rfl rfl ?_; intro K hK; go_big_quiet_op; go_big_quiet_on))
          ((first | refine Mix.lex_goes0 rfl rfl ?_ | refine Mix.lex_goesG rfl rfl rfl (by with_reducible rfl) rfl ?_); intro K hK; go_simp)
          refine hK _ _ (fun hne => absurd rfl hne) ?_
          clear hK K y0 z0
          simp only [Act.put, List.setIfInBounds_toArray, List.set_cons_succ, List.set_cons_zero]
          refine Mix.lex_nil ?_
          obtain ⟨w7, hw7⟩ : ∃ u, u = w5.setCell ⟨g, 4, none⟩ (.slice A' (way.length + G.targets.length : Nat) c') := ⟨_, rfl⟩
          rw [← hw7] at P7 ⊢
          have O47 : Hid (Only F u4 w7) := by
            rw [Hid, hw7, HF.out]
            exact (O7.out.weak fun q _ e => by rw [HF2.out] at e; exact .inr (.inl e)).setCell (p := ⟨g, 4, none⟩) (.inr (.inl rfl)) _
          obtain ⟨F7, hF7⟩ : ∃ F7, F7 = Gfp g { a with wA := A', wc := c' } (way ++ G.targets).length done.length gs.length := ⟨_, rfl⟩
          have hst7 : ∀ q, F7 q → F q ∨ u4.heap.size ≤ q := by
            rw [hF7, HF.out]
            rintro q (e | e | e | e)
            · exact .inl (.inl e)
            · rw [List.length_append] at e
              rcases HB5.out with hb | hb
              · exact .inl (.inr (.inl (hb.symm.trans e)))
              · have h3 : some u4.drew.heap.size = some q := hb.symm.trans e
                injection h3 with h3
                exact .inr (by rw [← h3]; exact Nat.le_refl _)
            · exact .inl (.inr (.inr (.inl e)))
            · exact .inl (.inr (.inr (.inr e)))
          have RT7 := Lib.hid (RT.out.step O47.out hst7)
          have RN7 := Lib.hid (RN.out.step O47.out hst7)
          have RC7 := Lib.hid (RC.out.step O47.out hst7)
          have BX7 : Hid (¬ F7 bx) := fun e => by
            rcases hst7 bx e with h | h
            · exact BX.out h
            · have := CX.out.lt; omega
          have HF7 := Lib.hid hF7
          have HS7 := Lib.hid hst7
          clear hF7 hst7
          have CX7 : Hid (Cs w7 bx grpT #[.slice x.tA G.targets.length x.tc, .slice x.nA G.needs.length x.nc, .slice x.cA G.cmds.length x.cc, .bool G.phony]) := CX.out.keep O47.out BX.out
          clear hw7 TD CD GD O7 RT RN RC CX k4 k0
          obtain ⟨nA0, hnA⟩ : ∃ A, A = x.nA := ⟨_, rfl⟩
          have HN0 : Hid (RbS F7 w7 nA0 G.needs) := by rw [Hid, hnA]; exact RN7.out
          have k1 : w7.cell? ⟨bx, 1, none⟩ = some (.slice nA0 G.needs.length x.nc) := by rw [hnA]; exact CX7.out.cell 1
          have HLe := Lib.hid (show way.length + G.targets.length ≤ 2 * (100 - f) ∧ leftF (candF m l goal) (way ++ G.targets) < f ∧ ∀ t ∈ G.needs, t ∈ candF m l goal by
            refine ⟨by omega, ?_, fun t ht => ruleF_cand HO.out.symm t ht⟩
            have := leftF_lt HLt.out.2 HQ.out.symm (ruleF_own HO.out.symm)
            have := HLt.out.1
            omega)
          have hf1 : f ≤ 100 := by omega
          clear HB5 hnA
          go_wp2_with fail
          go_loopw [66] (fun i wr => ∃ k : Nat, k ≤ G.needs.length ∧ i = .int .i64 k ∧ ∃ (a' : GrwA) (done' : List Str) (gs' : List (RulA × Grp)), Gw w wr g v m lA lc l.length a' (way ++ G.targets) done' gs' ∧ DoneOk m l done' (gs'.map (·.2)) ∧ (∀ y ∈ gs', y.2.targets.length ≤ 2) ∧ gs'.length ≤ 10 ∧ Only F7 w7 wr ∧ (∀ q, Gfp g a' (way ++ G.targets).length done'.length gs'.length q → F7 q ∨ w7.heap.size ≤ q) ∧
            needsF (visitF m l f (way ++ G.targets)) (gs'.map (·.2)) (G.needs.drop k) = needsF (visitF m l f (way ++ G.targets)) (gs.map (·.2)) G.needs) (fun i _ => G.needs.length - (intOf i).toNat)
          case atStart => exact ⟨0, Nat.zero_le _, rfl, _, done, gs, P7.out, HD.out, HT2.out, hg10, Only.refl _ _, fun q hq => .inl (by rw [HF7.out]; exact hq), rfl⟩
          case round =>
            clear k1 P7
            obtain ⟨k, hk, rfl, a', done', gs', hG, hD, h2, h10, hO, hSt, hnE⟩ := hrel
            have G8 := Lib.hid hG
            have D8 := Lib.hid (And.intro hD (And.intro h2 h10))
            have O8 := Lib.hid hO
            have S8 := Lib.hid hSt
            have E8 := Lib.hid hnE
            clear hG hD h2 h10 hO hSt hnE
            by_cases hlt : k < G.needs.length
            · obtain ⟨bn, o, t, rfl, ht, ct⟩ := strs_get (HN0.out wr O8.out) hlt
              have HT := Lib.hid ht
              have ct' : wr.cell? ⟨bn, o + k, none⟩ = some (S t) := ct ⟨wr, Only.refl _ _⟩
              have HV : Hid (∀ u, Ext wr u → Calls Tryz.prog 37 #[.pointer (some ⟨g, 0, none⟩), S t] u (VisRes w u g v m l lA lc (Gfp g a' (way ++ G.targets).length done'.length gs'.length) (way ++ G.targets) (visitF m l f (way ++ G.targets) (gs'.map (·.2)) t))) := fun u hu =>
                HI.out hf1 u a' (way ++ G.targets) done' gs' t (G8.out.ext hu) D8.out.1 D8.out.2.1 D8.out.2.2 (by rw [List.length_append]; exact HLe.out.1) (HLe.out.2.2 t (List.mem_of_getElem? ht)) HLe.out.2.1
              obtain ⟨⟨out, code⟩, hr⟩ : ∃ r, r = visitF m l f (way ++ G.targets) (gs'.map (·.2)) t := ⟨_, rfl⟩
              rw [← hr] at HV
              have HR := Lib.hid hr
              clear ht ct hr
              go_wp2_with fail
              refine (HV.out wr (Only.refl _ _)).mono ?_
              rintro e u5 ⟨he, o5, hz⟩
              have he : e = .returned (errV code) := he
              subst he
              have O9 := Lib.hid (O8.out.under o5 S8.out)
              have HZ := Lib.hid hz
              have hS := Lib.hid (needs_step HT.out HR.out.symm)
              clear o5 hz HV ct'
              by_cases h0 : code = 0
              · subst h0
                rw [errV_zero]
                go_wp2_with fail
                go_roundw
                case rel =>
                  obtain ⟨a2, done2, gs2, g2, e2, d2, t2, l2, s2⟩ := HZ.out (by first | trivial | rfl)
                  refine ⟨k + 1, by omega, by go_num, a2, done2, gs2, g2, by rw [e2]; exact d2, t2, l2, O9.out, fun q hq => ?_, ?_⟩
                  · rcases s2 q hq with h | h
                    · exact S8.out q h
                    · exact .inr (Nat.le_trans O8.out.size h)
                  · rw [← E8.out, hS.out, e2]
                    rfl
                case measure => simp [intOf]; omega
              · rw [errV_pos h0]
                go_wp2_with fail
                go_ret
                have hv : visitF m l (f + 1) way (gs.map (·.2)) name = (out, code) := by
                  rw [visit_some HQ.out.symm HMf.out HO.out.symm (by rw [← E8.out, hS.out, if_pos (show (out, code).2 ≠ 0 from h0)])]
                  exact if_pos h0
                rw [hv]
                refine ⟨show _ = Ending.returned (errV code) by rw [errV_pos h0]; rfl, ?_, fun h => absurd h h0⟩
                exact ((Only.any (X2.out.then_ext X4.out)).trans O47.out fun _ _ e => e).trans O9.out fun q hq e => (HS7.out q e).elim id fun h => absurd h (by have := (X2.out.then_ext X4.out).size; omega)
            · obtain rfl : k = G.needs.length := by omega
              have hE : Hid (needsF (visitF m l f (way ++ G.targets)) (gs.map (·.2)) G.needs = (gs'.map (·.2), 0)) := by
                rw [Hid, ← E8.out, List.drop_of_length_le (Nat.le_refl _)]; rfl
              have CX8 : Hid (Cs wr bx grpT #[.slice x.tA G.targets.length x.tc, .slice x.nA G.needs.length x.nc, .slice x.cA G.cmds.length x.cc, .bool G.phony]) := CX7.out.keep O8.out BX7.out
              have hcap : way.length + G.targets.length ≤ a'.wc := by have := own_cap G8.out.fw.own; rw [List.length_append] at this; exact this
              have hbl := CX7.out.lt
              have k4 : ∀ ξ : X wr No, ξ.v.cell? ⟨g, 4, none⟩ = some (.slice a'.wA (way.length + G.targets.length : Nat) a'.wc) := by rw [← List.length_append]; exact G8.out.cs.x id 4
              have k0 : ∀ ξ : X wr No, ξ.v.cell? ⟨bx, 0, none⟩ = some (.slice x.tA G.targets.length x.tc) := CX8.out.x id 0
              have y0 : wr.drew.cell? ⟨g, 4, none⟩ = some (.slice a'.wA (way.length + G.targets.length : Nat) a'.wc) := by rw [← List.length_append]; exact (G8.out.ext (Only.refl No wr).drew).cs.cell 4
              have z0 := G8.out.cs.frozen 4
              clear HI HN0 HLe E8 hlt hk CX7
              go_upto_region 20 with fail
              refine Mix.wp_draw [17] 17 (Cl wr No) (by kernel_rfl) (by kernel_rfl) (Cl.of (Only.refl _ _).drew) ?_
              (repeat' (refine Mix.lex_quiet0 rfl rfl rfl ?_; intro K hK; go_big_quiet_op; go_big_quiet_on))
              ((first | refine Mix.lex_goes0 rfl rfl ?_ | refine Mix.lex_goesG rfl rfl rfl (by with_reducible rfl) rfl ?_); intro K hK; go_simp)
              refine hK _ _ (fun hne => absurd rfl hne) ?_
              clear hK K y0 z0 k4 k0
              simp only [Act.put, List.setIfInBounds_toArray, List.set_cons_succ, List.set_cons_zero]
              refine Mix.lex_nil ?_
              obtain ⟨w9, hw9⟩ : ∃ u, u = (wr.setCell ⟨g, 4, none⟩ (.slice a'.wA (way.length : Nat) a'.wc)).drew := ⟨_, rfl⟩
              rw [← hw9]
              have P9 : Hid (Gw w w9 g v m lA lc l.length a' way done' gs') := by
                have h := G8.out.cutW (k := way.length) (by rw [List.length_append]; omega)
                rw [List.take_left' rfl] at h
                rw [Hid, hw9]
                exact h.ext (Only.refl No _).drew
              have O9 : Hid (Only (Gfp g a' way.length done'.length gs'.length) wr w9) := by
                rw [Hid, hw9]
                exact ((Only.refl _ _).setCell (p := ⟨g, 4, none⟩) (.inr (.inl rfl)) _).drew
              obtain ⟨F9, hF9⟩ : ∃ F9, F9 = Gfp g a' way.length done'.length gs'.length := ⟨_, rfl⟩
              have HF9 := Lib.hid hF9
              have HS9 : Hid (∀ q, F9 q → F7 q ∨ w7.heap.size ≤ q) := fun q hq => S8.out q (by rw [Gfp_eq g a' _ _ _ way.length done'.length gs'.length, ← HF9.out]; exact hq)
              rw [← hF9] at O9
              clear hw9 hF9
              have O79 : Hid (Only F7 w7 w9) := O8.out.under O9.out HS9.out
              have RT9 := Lib.hid (RT7.out.step O79.out HS9.out)
              have RN9 := Lib.hid (RN7.out.step O79.out HS9.out)
              have RC9 := Lib.hid (RC7.out.step O79.out HS9.out)
              have BX9 : Hid (¬ F9 bx) := fun e => (HS9.out bx e).elim BX7.out fun h => by omega
              have CX9 : Hid (Cs w9 bx grpT #[.slice x.tA G.targets.length x.tc, .slice x.nA G.needs.length x.nc, .slice x.cA G.cmds.length x.cc, .bool G.phony]) := CX8.out.keep O9.out BX9.out
              clear CX8 RT7 RN7 RC7
              have hdl2 : done'.length ≤ l.length + 20 := D8.out.1.len (by rw [List.length_map]; exact D8.out.2.2) (by
                intro y hy
                obtain ⟨z, hz, rfl⟩ := List.mem_map.1 hy
                exact D8.out.2.1 z hz)
              obtain ⟨F2, hF2⟩ : ∃ F2 : Nat → Prop, F2 = fun q => (Value.slice a'.dA done'.length a'.dc).ownBlock = some q := ⟨_, rfl⟩
              have f2g : ¬ F2 g := by
                rw [hF2]
                exact fun e => own_ne_cs P9.out.fd.own P9.out.cs (by decide) _ e rfl
              have f2x : ¬ F2 bx := by
                rw [hF2]
                exact fun e => own_ne_cs P9.out.fd.own CX9.out (by decide) _ e rfl
              have k5 : ∀ ξ : X w9 F2, ξ.v.cell? ⟨g, 5, none⟩ = some (.slice a'.dA done'.length a'.dc) := P9.out.cs.x f2g 5
              have k0 : ∀ ξ : X w9 F2, ξ.v.cell? ⟨bx, 0, none⟩ = some (.slice x.tA G.targets.length x.tc) := CX9.out.x f2x 0
              have HF2 := Lib.hid hF2
              clear hF2 f2g f2x
              go_upto_region 21 with fail
              refine Mix.wp_draw [7, 10] 10 (Cl w9 F2) (by kernel_rfl) (by kernel_rfl) (Cl.of (Only.refl _ _).drew) ?_
              (repeat' (refine Mix.lex_quiet0 rfl rfl rfl ?_; intro K hK; go_big_quiet_op; go_big_quiet_on))
              have xd : Ext w9 w9.drew := (Only.refl No _).drew
              have GD := Lib.hid (P9.out.ext xd)
              have TD := Lib.hid (RT9.out.ext xd)
              refine Mix.lex_goes0 rfl rfl ?_
              intro K hK
              refine goes_append (v := .slice a'.dA done'.length a'.dc) (n := done'.length) (xs := done'.flatMap strF.enc) st_ty rfl rfl rfl GD.out.fd.own (TD.out.here.rd (by decide)) (str_enc1 _) (by omega) ?_
              intro A2 c2 wd hown5 hg5 hb5
              have P11 := Lib.hid (GD.out.growD (ts := G.targets) hown5 hg5 hb5)
              have O11 : Hid (Only F2 w9 wd) := (Only.refl _ _).drew.grown hg5 fun g hg => .inr (by rw [HF2.out]; exact hg)
              refine hK _ _ (fun _ => Cl.of O11.out) ?_
              clear hK K
              simp only [Act.put, List.setIfInBounds_toArray, List.set_cons_succ, List.set_cons_zero]
              have C7 := GD.out.cs.keep ((Only.refl (fun b => (Value.slice a'.dA done'.length a'.dc).ownBlock = some b) _).grown hg5 fun g hg => .inr hg) (fun e => own_ne_cs GD.out.fd.own GD.out.cs (by decide) _ e rfl)
              have y0 : wd.cell? ⟨g, 5, none⟩ = some (.slice a'.dA done'.length a'.dc) := C7.cell 5
              have z0 := C7.frozen 5
              have HB5 := Lib.hid hb5
              clear C7 hown5 hg5 hb5 xd
              (repeat' (refine Mix.lex_quiet0 rfl rfl rfl ?_; intro K hK; go_big_quiet_op; go_big_quiet_on))
              ((first | refine Mix.lex_goes0 rfl rfl ?_ | refine Mix.lex_goesG rfl rfl rfl (by with_reducible rfl) rfl ?_); intro K hK; go_simp)
              refine hK _ _ (fun hne => absurd rfl hne) ?_
              clear hK K y0 z0
              simp only [Act.put, List.setIfInBounds_toArray, List.set_cons_succ, List.set_cons_zero]
              refine Mix.lex_nil ?_
              obtain ⟨w11, hw11⟩ : ∃ u, u = wd.setCell ⟨g, 5, none⟩ (.slice A2 (done'.length + G.targets.length : Nat) c2) := ⟨_, rfl⟩
              rw [← hw11] at P11 ⊢
              obtain ⟨aD, haD⟩ : ∃ aD : GrwA, aD = { a' with dA := A2, dc := c2 } := ⟨_, rfl⟩
              rw [← haD] at P11
              obtain ⟨F11, hF11⟩ : ∃ F11, F11 = Gfp g aD way.length (done' ++ G.targets).length gs'.length := ⟨_, rfl⟩
              have HF11 := Lib.hid hF11
              have HS11 : Hid (∀ q, F11 q → F9 q ∨ w9.heap.size ≤ q) := by
                rw [Hid, hF11, HF9.out, haD]
                rintro q (e | e | e | e)
                · exact .inl (.inl e)
                · exact .inl (.inr (.inl e))
                · rw [List.length_append] at e
                  rcases HB5.out with hb | hb
                  · exact .inl (.inr (.inr (.inl (hb.symm.trans e))))
                  · have h3 : some w9.drew.heap.size = some q := hb.symm.trans e
                    injection h3 with h3
                    exact .inr (by rw [← h3]; exact Nat.le_refl _)
                · exact .inl (.inr (.inr (.inr e)))
              have O911 : Hid (Only F9 w9 w11) := by
                rw [Hid, hw11, HF9.out]
                exact (O11.out.weak fun q _ e => by rw [HF2.out] at e; exact .inr (.inr (.inl e))).setCell (p := ⟨g, 5, none⟩) (.inr (.inl rfl)) _
              have O711 : Hid (Only F7 w7 w11) := O79.out.under O911.out HS9.out
              have HS711 : Hid (∀ q, F11 q → F7 q ∨ w7.heap.size ≤ q) := fun q hq => by
                rcases HS11.out q hq with h | h
                · exact HS9.out q h
                · exact .inr (Nat.le_trans O79.out.size h)
              have RT11 := Lib.hid (RT9.out.step O911.out HS11.out)
              have RN11 := Lib.hid (RN9.out.step O911.out HS11.out)
              have RC11 := Lib.hid (RC9.out.step O911.out HS11.out)
              have CX11 := Lib.hid (CX9.out.keep O911.out BX9.out)
              have BX11 : Hid (¬ F11 bx) := fun e => (HS711.out bx e).elim BX7.out fun h => by omega
              have hv := Lib.hid (visit_some HQ.out.symm HMf.out HO.out.symm hE.out)
              have kk6 : w11.cell? ⟨g, 6, none⟩ = some (.slice aD.oA gs'.length aD.oc) := P11.out.cs.cell 6
              have OU : Hid (∀ z, Only F11 w11 z → Only F u z) := fun z hz =>
                ((Only.any (X2.out.then_ext X4.out)).trans O47.out fun _ _ e => e).trans (O711.out.under hz HS711.out) fun q hq e => (HS7.out q e).elim id fun h => absurd h (by have := (X2.out.then_ext X4.out).size; omega)
              have HSU : Hid (∀ q, F11 q → F q ∨ u.heap.size ≤ q) := fun q hq => by
                have s1 := (X2.out.then_ext X4.out).size
                have s2 := O47.out.size
                rcases HS711.out q hq with h | h
                · rcases HS7.out q h with h | h
                  · exact .inl h
                  · exact .inr (by omega)
                · exact .inr (by omega)
              clear hw11 hF11 haD O11 GD TD RT9 RN9 RC9 CX9 BX9 HF2 k5 k0 HB5 hE
              by_cases h10 : gs'.length = 10
              · go_wp2_with fail
                go_ret
                rw [hv.out, if_neg (by simp), if_pos (by rw [List.length_map]; exact h10)]
                exact ⟨rfl, OU.out _ (Only.refl _ _), fun h => absurd (show (2 : Int) = 0 from h) (by decide)⟩
              · have hl9 : gs'.length ≤ 9 := by have := D8.out.2.2; omega
                obtain ⟨F2, hF2⟩ : ∃ F2 : Nat → Prop, F2 = fun q => (Value.slice aD.oA gs'.length aD.oc).ownBlock = some q := ⟨_, rfl⟩
                have f2g : ¬ F2 g := by
                  rw [hF2]
                  exact fun e => own_ne_cs P11.out.fo.own P11.out.cs (by decide) _ e rfl
                have f2x : ¬ F2 bx := by
                  rw [hF2]
                  exact fun e => BX11.out (by rw [HF11.out]; exact .inr (.inr (.inr e)))
                have k6 : ∀ ξ : X w11 F2, ξ.v.cell? ⟨g, 6, none⟩ = some (.slice aD.oA gs'.length aD.oc) := P11.out.cs.x f2g 6
                have b0 : ∀ ξ : X w11 F2, ξ.v.cell? ⟨bx, 0, none⟩ = some (.slice x.tA G.targets.length x.tc) := CX11.out.x f2x 0
                have b1 : ∀ ξ : X w11 F2, ξ.v.cell? ⟨bx, 1, none⟩ = some (.slice x.nA G.needs.length x.nc) := CX11.out.x f2x 1
                have b2 : ∀ ξ : X w11 F2, ξ.v.cell? ⟨bx, 2, none⟩ = some (.slice x.cA G.cmds.length x.cc) := CX11.out.x f2x 2
                have b3 : ∀ ξ : X w11 F2, ξ.v.cell? ⟨bx, 3, none⟩ = some (.bool G.phony) := CX11.out.x f2x 3
                have HF2 := Lib.hid hF2
                clear hF2 f2g f2x
                go_upto_region 24 with fail
                refine Mix.wp_draw [6, 7, 10] 10 (Cl w11 F2) (by kernel_rfl) (by kernel_rfl) (Cl.of (Only.refl _ _).drew) ?_
                (repeat' (refine Mix.lex_quiet0 rfl rfl rfl ?_; intro K hK; go_big_quiet_op; go_big_quiet_on))
                ((first | refine Mix.lex_goes0 rfl rfl ?_ | refine Mix.lex_goesG rfl rfl rfl (by with_reducible rfl) rfl ?_); intro K hK; go_simp)
                obtain ⟨u12, hu12⟩ : ∃ u, u = (w11.alloc (.cells #[.slice x.tA G.targets.length x.tc, .slice x.nA G.needs.length x.nc, .slice x.cA G.cmds.length x.cc, .bool G.phony] grpT)).drew := ⟨_, rfl⟩
                have X12 : Hid (Ext w11 u12) := by rw [hu12]; exact ((Only.refl No w11).alloc _).drew
                have hrd : Rd u12 (some ⟨w11.heap.size, 0, none⟩) 1 4 [.slice x.tA G.targets.length x.tc, .slice x.nA G.needs.length x.nc, .slice x.cA G.cmds.length x.cc, .bool G.phony] := by
                  rw [hu12]
                  exact rd_one w11 _ [.slice x.tA G.targets.length x.tc, .slice x.nA G.needs.length x.nc, .slice x.cA G.cmds.length x.cc, .bool G.phony]
                rw [← hu12]
                clear hu12
                have G12 := Lib.hid (P11.out.ext X12.out)
                refine hK _ _ (fun _ => Cl.of (Only.any X12.out)) ?_
                clear hK K
                simp only [Act.put, List.setIfInBounds_toArray, List.set_cons_succ, List.set_cons_zero]
                refine Mix.lex_goes0 rfl rfl ?_
                intro K hK
                refine goes_append (v := .slice aD.oA gs'.length aD.oc) (n := gs'.length) (xs := gs'.flatMap grpF.enc) gr_ty rfl rfl rfl G12.out.fo.own hrd (by simp [Value.oneCell']) (by omega) ?_
                intro A3 c3 we hown5 hg5 hb5
                have P13 := Lib.hid (G12.out.growO (t := (x, G)) hown5 hg5 hb5 ⟨by rw [← HF11.out]; exact RT11.out.ext X12.out, by rw [← HF11.out]; exact RN11.out.ext X12.out, by rw [← HF11.out]; exact RC11.out.ext X12.out⟩)
                have O13 : Hid (Only F2 w11 we) := (Only.any X12.out).grown hg5 fun g hg => .inr (by rw [HF2.out]; exact hg)
                refine hK _ _ (fun _ => Cl.of O13.out) ?_
                clear hK K
                simp only [Act.put, List.setIfInBounds_toArray, List.set_cons_succ, List.set_cons_zero]
                have C7 := G12.out.cs.keep ((Only.refl (fun b => (Value.slice aD.oA gs'.length aD.oc).ownBlock = some b) _).grown hg5 fun g hg => .inr hg) (fun e => own_ne_cs G12.out.fo.own G12.out.cs (by decide) _ e rfl)
                have y0 : we.cell? ⟨g, 6, none⟩ = some (.slice aD.oA gs'.length aD.oc) := C7.cell 6
                have z0 := C7.frozen 6
                have HB6 := Lib.hid hb5
                clear C7 hown5 hg5 hb5 hrd
                (repeat' (refine Mix.lex_quiet0 rfl rfl rfl ?_; intro K hK; go_big_quiet_op; go_big_quiet_on))
                ((first | refine Mix.lex_goes0 rfl rfl ?_ | refine Mix.lex_goesG rfl rfl rfl (by with_reducible rfl) rfl ?_); intro K hK; go_simp)
                refine hK _ _ (fun hne => absurd rfl hne) ?_
                clear hK K y0 z0
                simp only [Act.put, List.setIfInBounds_toArray, List.set_cons_succ, List.set_cons_zero]
                refine Mix.lex_nil ?_
                have X13 : Hid (Only F11 w11 (we.setCell ⟨g, 6, none⟩ (.slice A3 (gs'.length + 1 : Nat) c3))) := by
                  rw [Hid, HF11.out]
                  exact (O13.out.weak fun q _ e => by rw [HF2.out] at e; exact .inr (.inr (.inr e))).setCell (p := ⟨g, 6, none⟩) (.inr (.inl rfl)) _
                go_wp2_with fail
                go_ret
                rw [hv.out, if_neg (by simp), if_neg (by rw [List.length_map]; exact h10)]
                refine ⟨rfl, OU.out _ X13.out, fun _ => ⟨_, _, _, P13.out, ?_, ?_, ?_, ?_, ?_⟩⟩
                · rw [List.map_append]; rfl
                · exact D8.out.1.grp
                · intro y hy
                  rcases List.mem_append.1 hy with hy | hy
                  · exact D8.out.2.1 y hy
                  · obtain rfl := List.mem_singleton.1 hy
                    exact hb2
                · rw [List.length_append, List.length_singleton]; omega
                · rintro q (e | e | e | e)
                  · exact HSU.out q (by rw [HF11.out]; exact .inl e)
                  · exact HSU.out q (by rw [HF11.out]; exact .inr (.inl e))
                  · exact HSU.out q (by rw [HF11.out]; exact .inr (.inr (.inl e)))
                  · rw [List.length_append] at e
                    rcases HB6.out with hb | hb
                    · exact HSU.out q (by rw [HF11.out]; exact .inr (.inr (.inr (hb.symm.trans e))))
                    · have h3 : some u12.heap.size = some q := hb.symm.trans e
                      injection h3 with h3
                      have s1 := (X2.out.then_ext X4.out).size
                      have s2 := O47.out.size
                      have s3 := O711.out.size
                      have s4 := X12.out.size
                      exact .inr (by omega)
def OfsRes (w : World) (r : List Grp × Int) (e : Ending) (w' : World) : Prop :=
  ∃ (A : Option Addr) (c : Nat) (os : List (RulA × Grp)), e = .returned (.tuple #[.slice A r.1.length c, errV r.2]) ∧ GrpsR w' A os r.1 ∧ Ext w w' ∧ r.1.length ≤ c
theorem Gw.start {w u : World} {g : Nat} {v : MkV} {m : Mk} {lA : Option Addr} {lc ll : Nat} (hx : Ext w u) (hg : w.heap.size ≤ g)
    (hc : Cs u g grwT #[.slice v.vA m.vars.length v.vc, .slice v.rA m.rules.length v.rc, .slice v.pA m.phony.length v.pc, .slice lA ll lc, .slice none 0 0, .slice none 0 0, .slice none 0 0]) :
    Gw w u g v m lA lc ll ⟨none, 0, none, 0, none, 0⟩ [] [] [] :=
  ⟨hc, Fresh.nil _ _ _ _ hx, Fresh.nil _ _ _ _ hx, Fresh.nil _ _ _ _ hx, hg, (fun b h => by simp [Value.ownBlock] at h), (fun x hx => by cases hx)⟩
theorem Gw.grps {w u : World} {g : Nat} {v : MkV} {m : Mk} {lA : Option Addr} {lc ll : Nat} {a : GrwA} {way done : List Str} {gs : List (RulA × Grp)} (h : Gw w u g v m lA lc ll a way done gs) : GrpsR u a.oA gs (gs.map (·.2)) :=
  ⟨by rw [List.length_map]; exact h.fo.row (by decide), fun x hx => ⟨(h.rw x hx).1.here, (h.rw x hx).2.1.here, (h.rw x hx).2.2.here⟩, rfl⟩
set_option maxRecDepth 100000 in
set_option maxHeartbeats 8000000 in
theorem GrOf_c {w : World} (hml : Ml w) {v : MkV} {rs : List (RulA × Rul)} {m : Mk} {lA : Option Addr} {lc : Nat} {l : List File} (hmk : MakeR w v rs m) (hfl : SlR fileF w lA l.length l) (hgb : GBd m l) (goal : Str) (hgl : goal.length ≤ 10000) (hcb : nameB goal = true → ∀ x ∈ candF m l goal, x.length ≤ 200) (hcl : (candF m l goal).length < 100) :
    Calls Tryz.prog 11 #[mkV v m, .slice lA l.length lc, S goal] w (OfsRes w (groupsF m l goal)) := by
  have HN := Lib.hid (fun w => Name_c goal w hgl)
  obtain ⟨nb, hnb⟩ : ∃ b, b = nameB goal := ⟨_, rfl⟩
  rw [← hnb] at HN hcb
  have HNb := Lib.hid hnb
  have HML := Lib.hid hml
  have HMK := Lib.hid hmk
  have HFL := Lib.hid hfl
  have HGB := Lib.hid hgb
  have HCB := Lib.hid hcb
  have HCL := Lib.hid hcl
  obtain ⟨w1, hw1⟩ : ∃ u, u = w.alloc (.cells #[.slice v.vA m.vars.length v.vc, .slice v.rA m.rules.length v.rc, .slice v.pA m.phony.length v.pc] makeT) := ⟨_, rfl⟩
  have X1 : Hid (Ext w w1) := by rw [hw1]; exact (Only.refl No w).alloc _
  have C1 : Hid (Cs w1 w.heap.size makeT #[.slice v.vA m.vars.length v.vc, .slice v.rA m.rules.length v.rc, .slice v.pA m.phony.length v.pc]) := by rw [hw1]; exact Cs.new _ _ _
  clear hml hmk hfl hgb hcb hcl hnb
  go_enter Tryz.func11, Tryz.ntmps11
  go_upto_region 1 with fail
  rw [← hw1]
  clear hw1
  go_wp2_with fail
  refine (HN.out w1).mono ?_
  rintro e u2 ⟨rfl, hx2⟩
  have C2 := Lib.hid (C1.out.keep hx2 id)
  have X2 := Lib.hid (X1.out.then_ext hx2)
  clear hx2 HN X1 C1
  cases nb with
  | false =>
    go_wp2_with fail
    go_ret2
    have hv : groupsF m l goal = ([], 3) := by rw [groupsF, if_pos HNb.out.symm]
    rw [hv]
    exact ⟨none, 0, [], rfl, GrpsR.nil _, X2.out, Nat.le_refl _⟩
  | true =>
    have k0 : u2.cell? ⟨w.heap.size, 0, none⟩ = some (.slice v.vA m.vars.length v.vc) := C2.out.cell 0
    have k1 : u2.cell? ⟨w.heap.size, 1, none⟩ = some (.slice v.rA m.rules.length v.rc) := C2.out.cell 1
    have k2 : u2.cell? ⟨w.heap.size, 2, none⟩ = some (.slice v.pA m.phony.length v.pc) := C2.out.cell 2
    go_upto_region 4 with fail
    obtain ⟨g, hg⟩ : ∃ g, g = u2.heap.size := ⟨_, rfl⟩
    obtain ⟨u3, hu3⟩ : ∃ u, u = u2.alloc (.cells #[.slice v.vA m.vars.length v.vc, .slice v.rA m.rules.length v.rc, .slice v.pA m.phony.length v.pc, .slice lA l.length lc, .slice none 0 0, .slice none 0 0, .slice none 0 0] grwT) := ⟨_, rfl⟩
    have hx3 : Ext u2 u3 := by rw [hu3]; exact (Only.refl No _).alloc _
    have X3 := Lib.hid (X2.out.then_ext hx3)
    have HG : Hid (w.heap.size ≤ g) := by rw [Hid, hg]; exact X2.out.size
    have G3 : Hid (Gw w u3 g v m lA lc l.length ⟨none, 0, none, 0, none, 0⟩ [] [] []) := Gw.start X3.out HG.out (by rw [hu3, hg]; exact Cs.new _ _ _)
    have HV := Lib.hid (visit_c HML.out HMK.out HFL.out HGB.out g goal (HCB.out (by first | trivial | rfl)) 100 (Nat.le_refl _) u3 _ [] [] [] goal G3.out DoneOk.nil (fun x hx => by cases hx) (Nat.zero_le _) (Nat.zero_le _) (by unfold candF; simp) (Nat.lt_of_le_of_lt (leftF_le _ _) HCL.out))
    obtain ⟨⟨out, code⟩, hr⟩ : ∃ r, r = visitF m l 100 [] [] goal := ⟨_, rfl⟩
    have hgr : Hid (groupsF m l goal = if code ≠ 0 then ([], code) else (out, 0)) := by
      rw [Hid, groupsF, if_neg (by rw [← HNb.out]; decide), ← hr]
    rw [List.map_nil, ← hr] at HV
    rw [← hu3, ← hg]
    clear hu3 hg hx3 k0 k1 k2 hr
    go_wp2_with fail
    refine HV.out.mono ?_
    rintro e u4 ⟨he, o4, hz⟩
    have he : e = .returned (errV code) := he
    subst he
    have X4 : Hid (Ext w u4) := X3.out.trans o4 fun q hq e => by
      rcases e with rfl | e | e | e
      · have := HG.out; omega
      · cases e
      · cases e
      · cases e
    by_cases h0 : code = 0
    · subst h0
      obtain ⟨a, done, gs, G4, hm, _, _, _, _⟩ := hz (by first | trivial | rfl)
      have hm : gs.map (·.2) = out := hm
      have k6 : u4.cell? ⟨g, 6, none⟩ = some (.slice a.oA gs.length a.oc) := G4.cs.cell 6
      have HG4 := Lib.hid G4
      have HM := Lib.hid hm
      rw [errV_zero]
      clear hz o4 HV G4 hm
      go_wp2_with fail
      go_ret2
      rw [hgr.out, if_neg (by simp)]
      refine ⟨a.oA, a.oc, gs, ?_, ?_, X4.out, ?_⟩
      · rw [← HM.out, List.length_map]; rfl
      · have := HG4.out.grps
        rw [HM.out] at this
        exact this
      · have := own_cap HG4.out.fo.own
        rw [← HM.out, List.length_map]
        exact this
    · rw [errV_pos h0]
      clear hz o4 HV
      go_wp2_with fail
      go_ret2
      rw [hgr.out, if_pos h0]
      exact ⟨none, 0, [], by rw [show ((([] : List Grp), code).2) = code from rfl, errV_pos h0]; rfl, GrpsR.nil _, X4.out, Nat.le_refl _⟩
theorem word_len {s : Str} (h : wordB s = true) : s.length ≤ 8 := by
  unfold wordB nameB at h
  simp only [Bool.and_eq_true, decide_eq_true_eq] at h
  obtain ⟨⟨_, h⟩, _⟩ := h
  unfold onceF at h
  split at h
  · rename_i hc
    have := congrArg List.length (cut_parts 37 s hc)
    simp only [List.length_append, List.length_cons, List.length_nil] at this h
    omega
  · exact h
theorem okFrom_len {p : Bool} : ∀ {l seen : List Str}, okFrom p seen l = true → ∀ x ∈ l, x.length ≤ 8
  | [], _, _, x, hx => by cases hx
  | y :: r, seen, h, x, hx => by
    unfold okFrom at h
    simp only [Bool.and_eq_true] at h
    rcases List.mem_cons.1 hx with rfl | hx
    · exact word_len h.1.1.1
    · exact okFrom_len h.2 x hx
structure RLen (r : Rul) : Prop where
  t : ∀ x ∈ r.targets, x.length ≤ 8
  n : ∀ x ∈ r.needs, x.length ≤ 8
  c : ∀ x ∈ r.cmds, x.length ≤ 28
structure MLen (m : Mk) : Prop where
  r : ∀ x ∈ m.rules, RLen x
  p : ∀ x ∈ m.phony, x.length ≤ 8
theorem mk0_len : MLen mk0 := ⟨(fun x hx => by cases hx), (fun x hx => by cases hx)⟩
theorem headF_mlen {m : Mk} (h : MLen m) (s : Str) : MLen (headF m s).1 := by
  unfold headF
  split
  · exact h
  · split
    · exact h
    · split
      · exact h
      · split
        · rename_i h4
          unfold allOk at h4
          rw [Bool.and_eq_true] at h4
          have h5 := okFrom_len h4.1
          refine ⟨fun x hx => ?_, h.p⟩
          rcases List.mem_append.1 hx with hx | hx
          · exact h.r x hx
          · obtain rfl := List.mem_singleton.1 hx
            exact ⟨fun y hy => h5 y (List.mem_append_left _ hy), fun y hy => h5 y (List.mem_append_right _ hy), (fun y hy => by cases hy)⟩
        · exact h
theorem cmdF_mlen {m : Mk} (h : MLen m) (s : Str) : MLen (cmdF m s).1 := by
  unfold cmdF
  split
  · exact h
  · rename_i r hr
    split
    · exact h
    · split
      · exact h
      · rename_i h3
        have hm := h.r r (List.mem_of_getLast? hr)
        refine ⟨fun x hx => ?_, h.p⟩
        rcases List.mem_append.1 hx with hx | hx
        · exact h.r x (List.dropLast_subset _ hx)
        · obtain rfl := List.mem_singleton.1 hx
          refine ⟨hm.t, hm.n, fun y hy => ?_⟩
          rcases List.mem_append.1 hy with hy | hy
          · exact hm.c y hy
          · obtain rfl := List.mem_singleton.1 hy
            omega
theorem lineF_mlen {m : Mk} (h : MLen m) (s : Str) : MLen (lineF m s).1 := by
  cases s with
  | nil => exact h
  | cons x r =>
    rw [lineF_cons]
    split
    · exact h
    · split
      · exact cmdF_mlen h r
      · split
        · unfold phoF
          split
          · exact h
          · rename_i h1
            refine ⟨h.r, fun y hy => ?_⟩
            rcases List.mem_append.1 hy with hy | hy
            · exact h.p y hy
            · obtain rfl := List.mem_singleton.1 hy
              rw [not_or] at h1
              have h2 := h1.1
              rw [Bool.not_eq_false] at h2
              unfold nameB at h2
              simp only [Bool.and_eq_true, decide_eq_true_eq] at h2
              exact h2.1.2
        · split
          · unfold varF
            split
            · exact h
            · split
              · exact h
              · exact ⟨h.r, h.p⟩
          · exact headF_mlen h _
theorem foldF_mlen : ∀ (ls : List Str) (m : Mk), MLen m → MLen (foldF ls m).1
  | [], _, h => h
  | l :: ls, m, h => by
    unfold foldF
    split
    · exact foldF_mlen ls _ (lineF_mlen h l)
    · exact mk0_len
theorem parseF_mlen (s : Str) : MLen (parseF s).1 := by
  unfold parseF
  split
  · exact mk0_len
  · split
    · exact mk0_len
    · split
      · exact foldF_mlen _ _ mk0_len
      · exact mk0_len
theorem gbd {s : Str} {l : List File} (h : lightF l = true) : GBd (parseF s).1 l := by
  have hf := parseF_fit s
  have hm := parseF_mlen s
  obtain ⟨h1, _, h3⟩ := lightF_facts h
  refine ⟨Nat.le_trans hf.r (by decide), fun r hr => ?_, Nat.le_trans hf.p (by decide), by omega, h3⟩
  obtain ⟨p1, p2, p3, p4⟩ := hf.rt r hr
  have q := hm.r r hr
  exact ⟨p1, p2, p3, p4, fun x hx => by have := q.t x hx; omega, fun x hx => by have := q.n x hx; omega, fun x hx => by have := q.c x hx; omega⟩
theorem flat_len {α β : Type} {f : α → List β} {k : Nat} : ∀ {l : List α}, (∀ x ∈ l, (f x).length ≤ k) → (l.flatMap f).length ≤ k * l.length
  | [], _ => by simp
  | x :: xs, h => by
    have h1 := h x (by simp)
    have h2 := flat_len (l := xs) fun y hy => h y (List.mem_cons_of_mem _ hy)
    simp only [List.flatMap_cons, List.length_append, List.length_cons]
    rw [Nat.mul_add]
    omega
theorem cand_few {s : Str} {l : List File} (h : lightF l = true) (goal : Str) : (candF (parseF s).1 l goal).length < 100 := by
  have hf := parseF_fit s
  obtain ⟨h1, _, _⟩ := lightF_facts h
  have a1 := flat_len (f := fun r : Rul => r.targets) (k := 2) (l := (parseF s).1.rules) fun r hr => (hf.rt r hr).2.1
  have a2 := flat_len (f := fun r : Rul => ndsOf r []) (k := 3) (l := (parseF s).1.rules) fun r hr => by
    show (ndsOf r []).length ≤ 3
    unfold ndsOf
    rw [List.length_map]
    exact (hf.rt r hr).2.2.1
  have a3 := hf.r
  unfold candF
  simp only [List.length_append, List.length_cons, List.length_map]
  omega
theorem cand_len {s : Str} {l : List File} (h : lightF l = true) {goal : Str} (hg : goal.length ≤ 20) : ∀ x ∈ candF (parseF s).1 l goal, x.length ≤ 200 := by
  have hm := parseF_mlen s
  obtain ⟨_, h2, _⟩ := lightF_facts h
  intro x hx
  unfold candF at hx
  simp only [List.mem_append, List.mem_cons, List.mem_map, List.mem_flatMap] at hx
  rcases hx with (((rfl | ⟨y, hy, rfl⟩) | ⟨r, hr, hx⟩)) | ⟨r, hr, hx⟩
  · omega
  · have := (h2 y hy).1; omega
  · have := (hm.r r hr).t x hx; omega
  · unfold ndsOf at hx
    obtain ⟨y, hy, rfl⟩ := List.mem_map.1 hx
    have q1 := (hm.r r hr).n y hy
    have q2 := onceF_len y []
    simp only [List.length_nil] at q2
    omega
theorem parse_short {s : Str} (h : (parseF s).2 = 0) : s.length ≤ 600 ∧ chkF (parseF s).1 = 0 := by
  unfold parseF at h ⊢
  by_cases h1 : 600 < s.length
  · rw [if_pos h1] at h
    cases h
  · refine ⟨by omega, ?_⟩
    rw [if_neg h1] at h ⊢
    by_cases h2 : (foldF (splB 10 s) mk0).2 ≠ 0
    · rw [if_pos h2] at h
      exact absurd h h2
    · rw [if_neg h2] at h ⊢
      by_cases h3 : chkF (foldF (splB 10 s) mk0).1 = 0
      · rw [if_pos h3] at h ⊢
        exact h3
      · rw [if_neg h3] at h
        exact absurd h h3
abbrev madeT : Str := [98, 32, 58, 32, 97, 10, 9, 99, 111, 112, 121, 32, 97, 32, 98, 10]
abbrev madeC : Str := [99, 111, 112, 121, 32, 97, 32, 98]
abbrev madeM : Mk := ⟨[], [⟨[[98]], [[97]], [madeC]⟩], []⟩
abbrev madeG : Grp := ⟨[[98]], [[97]], [madeC], false⟩
theorem made_parse : parseF madeT = (madeM, 0) := by decide +kernel
abbrev madeL : List File := [([97], [])]
theorem made_grps : groupsF madeM madeL [98] = ([madeG], 0) := by decide +kernel
theorem made_bd : GBd madeM madeL ∧ (nameB [98] = true → ∀ x ∈ candF madeM madeL [98], x.length ≤ 200) ∧ (candF madeM madeL [98]).length < 100 := by
  refine ⟨⟨by decide, by decide, by decide, by decide, ?_⟩, ?_, ?_⟩
  · exact List.pairwise_singleton _ _
  · intro _ x hx
    simp [candF, ndsOf] at hx
    rcases hx with rfl | rfl | rfl | rfl <;> decide
  · simp [candF, ndsOf]
set_option maxRecDepth 100000 in
set_option maxHeartbeats 4000000 in
theorem made_c {w : World} (hm : Ml w) : Calls Tryz.prog 17 #[] w fun e w' => e = .returned (.bool true) ∧ Ext w w' := by
  have H0 : Calls Tryz.prog 18 #[S madeT] w (PrsRes w (madeM, 0)) := by
    have := MkParse_c hm madeT (by decide)
    rwa [made_parse] at this
  have HM := Lib.hid hm
  clear hm
  go_enter Tryz.func17, Tryz.ntmps17
  go_wp2_with fail
  refine H0.mono ?_
  rintro e u1 ⟨v, rs, rfl, hR, hu⟩
  have M1 : MakeR u1 v rs madeM := hR No u1 (fun b hb => hb.elim) (Only.refl _ _)
  obtain ⟨g7, hg7⟩ : ∃ g, g = u1.heap.size := ⟨_, rfl⟩
  obtain ⟨w1, hw1⟩ : ∃ u, u = u1.alloc (.cells #[.slice v.vA 0 v.vc, .slice v.rA 1 v.rc, .slice v.pA 0 v.pc] makeT) := ⟨_, rfl⟩
  have x1 : Ext u1 w1 := by rw [hw1]; exact (Only.refl No u1).alloc _
  have C1 : Cs w1 g7 makeT #[.slice v.vA 0 v.vc, .slice v.rA 1 v.rc, .slice v.pA 0 v.pc] := by rw [hw1, hg7]; exact Cs.new _ _ _
  have X1 : Hid (Ext w w1) := hu.then_ext x1
  have M2 := Lib.hid (M1.ext x1)
  have k0 : w1.cell? ⟨g7, 0, none⟩ = some (.slice v.vA 0 v.vc) := C1.cell 0
  have k1 : w1.cell? ⟨g7, 1, none⟩ = some (.slice v.rA 1 v.rc) := C1.cell 1
  have k2 : w1.cell? ⟨g7, 2, none⟩ = some (.slice v.pA 0 v.pc) := C1.cell 2
  clear x1 C1 M1 hu hR H0
  go_upto_region 2 with fail
  rw [← hw1, ← hg7]
  clear hw1 hg7
  rw [errV_zero]
  have hmd := made_bd
  go_wp2_with fail
  have x2 : Ext w1 (w1.alloc (.cells #[S [97], S []] 75)) := (Only.refl No w1).alloc _
  refine (GrOf_c (lc := 1) ((HM.out.ext X1.out).ext x2) (M2.out.ext x2) (show SlR fileF _ _ madeL.length madeL from SlR.one fileF w1 _ (([97], []) : File) rfl) hmd.1 [98] (by decide) hmd.2.1 hmd.2.2).mono ?_
  rw [made_grps]
  rintro e u4 ⟨A, c, os, rfl, hG, hu, _⟩
  have X4 : Hid (Ext w u4) := (X1.out.then_ext x2).then_ext hu
  clear hG hu x2 k0 k1 k2 hmd
  rw [errV_zero]
  go_wp2_with fail
  go_ret
  exact ⟨rfl, X4.out⟩
theorem needsF_allN {P : Grp → Prop} {N : Str → Prop} {rec : List Grp → Str → List Grp × Int} (h : ∀ o n, N n → (∀ g ∈ o, P g) → ∀ g ∈ (rec o n).1, P g) : ∀ (ns : List Str) (o : List Grp), (∀ n ∈ ns, N n) → (∀ g ∈ o, P g) → ∀ g ∈ (needsF rec o ns).1, P g
  | [], _, _, ho => ho
  | n :: ns, o, hn, ho => by
    unfold needsF
    split
    · exact h o n (hn n List.mem_cons_self) ho
    · exact needsF_allN h ns _ (fun k hk => hn k (List.mem_cons_of_mem _ hk)) (h o n (hn n List.mem_cons_self) ho)
theorem visitF_allN {m : Mk} {l : List File} {P : Grp → Prop} {N : Str → Prop} (hP : ∀ n g, N n → ruleF m l n = some g → P g ∧ ∀ k ∈ g.needs, N k) : ∀ (f : Nat) (way : List Str) (out : List Grp) (n : Str), N n → (∀ g ∈ out, P g) → ∀ g ∈ (visitF m l f way out n).1, P g
  | 0, _, _, _, _, ho => ho
  | f + 1, way, out, n, hn, ho => by
    have := fun w => needsF_allN (rec := visitF m l f w) (N := N) fun o n hn h => visitF_allN hP f w o n hn h
    unfold visitF
    split
    · exact ho
    · split
      · exact ho
      · split
        · split <;> exact ho
        · rename_i g hg
          have hg2 := hP n g hn hg
          split
          · exact this _ _ _ hg2.2 ho
          · split
            · exact this _ _ _ hg2.2 ho
            · intro x hx
              rcases List.mem_append.1 hx with hx | hx
              · exact this _ _ _ hg2.2 ho x hx
              · obtain rfl := List.mem_singleton.1 hx
                exact hg2.1
def GB4 (g : Grp) : Prop := 1 ≤ g.targets.length ∧ (∀ t ∈ g.targets, t.length ≤ 10000) ∧ ∀ t ∈ g.needs, t.length ≤ 10000
theorem GB4.head {g : Grp} (h : GB4 g) : 1 ≤ g.targets.length ∧ (g.targets.headD []).length ≤ 1000000 := by
  refine ⟨h.1, ?_⟩
  cases ht : g.targets with
  | nil => simp
  | cons a r =>
    have := h.2.1 a (by rw [ht]; exact List.mem_cons_self)
    show a.length ≤ _
    omega
end Go.Proofs.YtnhaekifcieeoaaGreatDoor
