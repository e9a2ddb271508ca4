/- Put together: Rg4, Pl1. -/
import Derived.Test.YtnhaekifcieeoaaGreatDoorPk14
import Derived.Test.YtnhaekifcieeoaaGreatDoorPk11
import Derived.Test.YtnhaekifcieeoaaGreatDoorPk10
import Derived.Test.YtnhaekifcieeoaaGreatDoorPk07
import Derived.Test.YtnhaekifcieeoaaGreatDoorPk02
import Derived.Laws.MakeOwn
namespace Go.Proofs.YtnhaekifcieeoaaGreatDoor
open Go Go.RowKit
theorem grp_enc1 (xs : List (RulA × Grp)) : ∀ u ∈ xs.flatMap grpF.enc, u.oneCell' = true := by
  intro u hu
  rw [List.mem_flatMap] at hu
  obtain ⟨x, _, hx⟩ := hu
  simp only [grpF, List.mem_cons, List.not_mem_nil, or_false] at hx
  rcases hx with rfl | rfl | rfl | rfl <;> rfl
theorem rd_cs4 {w : World} {g : Nat} {t : TypeId} {cs : List Value} (h : Cs w g t cs.toArray) : Rd w (some ⟨g, 0, none⟩) 1 cs.length cs := by
  refine ⟨by simp, fun _ => ⟨g, 0, rfl, fun j u hu => ?_⟩⟩
  rw [Nat.zero_add, h.cell]
  simpa using hu
theorem needsF_nonneg {rec : List Grp → Str → List Grp × Int} (h : ∀ o n, 0 ≤ (rec o n).2) : ∀ (ns : List Str) (o : List Grp), 0 ≤ (needsF rec o ns).2
  | [], _ => Int.le_refl _
  | n :: ns, o => by
    unfold needsF
    split
    · exact h o n
    · exact needsF_nonneg h ns _
theorem visitF_nonneg (m : Mk) (l : List File) : ∀ (f : Nat) (way : List Str) (out : List Grp) (n : Str), 0 ≤ (visitF m l f way out n).2
  | 0, _, _, _ => by simp [visitF]
  | f + 1, way, out, n => by
    have := fun w => needsF_nonneg (rec := visitF m l f w) fun o n => visitF_nonneg m l f w o n
    unfold visitF
    split
    · simp
    · split
      · simp
      · split
        · split <;> simp
        · rename_i g _
          split
          · exact this _ _ _
          · split <;> simp
theorem needsF_all {P : Grp → Prop} {rec : List Grp → Str → List Grp × Int} (h : ∀ o n, (∀ g ∈ o, P g) → ∀ g ∈ (rec o n).1, P g) : ∀ (ns : List Str) (o : List Grp), (∀ g ∈ o, P g) → ∀ g ∈ (needsF rec o ns).1, P g
  | [], _, ho => ho
  | n :: ns, o, ho => by
    unfold needsF
    split
    · exact h o n ho
    · exact needsF_all h ns _ (h o n ho)
theorem visitF_all {m : Mk} {l : List File} {P : Grp → Prop} (hP : ∀ n g, ruleF m l n = some g → P g) : ∀ (f : Nat) (way : List Str) (out : List Grp) (n : Str), (∀ g ∈ out, P g) → ∀ g ∈ (visitF m l f way out n).1, P g
  | 0, _, _, _, ho => ho
  | f + 1, way, out, n, ho => by
    have := fun w => needsF_all (rec := visitF m l f w) fun o n h => visitF_all hP f w o n h
    unfold visitF
    split
    · exact ho
    · split
      · exact ho
      · split
        · split <;> exact ho
        · rename_i g hg
          split
          · exact this _ _ _ ho
          · split
            · exact this _ _ _ ho
            · intro x hx
              rcases List.mem_append.1 hx with hx | hx
              · exact this _ _ _ ho x hx
              · obtain rfl := List.mem_singleton.1 hx
                exact hP n x hg
def GB3 (g : Grp) : Prop := g.targets.length ≤ 2 ∧ g.needs.length ≤ 3 ∧ g.cmds.length ≤ 3
theorem ruleF_b3 {m : Mk} {l : List File} (hb : GBd m l) (n : Str) (G : Grp) (h : ruleF m l n = some G) : GB3 G := by
  obtain ⟨_, h2, h3⟩ := ruleF_b hb h
  refine ⟨h2, h3, ?_⟩
  rcases ruleF_some h with ⟨r, hr, rfl⟩ | ⟨_, r, hr, _, rfl, _⟩
  · show (r.cmds.map _).length ≤ 3
    rw [List.length_map]
    exact (hb.t r (explF_some hr).1).2.2.2.1
  · show (r.cmds.map _).length ≤ 3
    rw [List.length_map]
    exact (hb.t r hr).2.2.2.1
def RVisRes (w : World) (r : List Grp × Int) (e : Ending) (w' : World) : Prop :=
  ∃ (A : Option Addr) (c : Nat) (os : List (RulA × Grp)) (n : Nat), e = .returned (.tuple #[.slice A n c, .int .i64 r.2]) ∧ (r.2 = 0 → n = os.length ∧ GrpsR w' A os r.1 ∧ os.length ≤ c) ∧ Ext w w'
set_option maxRecDepth 100000 in
set_option maxHeartbeats 8000000 in
theorem rvisit_c {w : World} (hml : Ml w) {v : MkV} {rs : List (RulA × Rul)} {m : Mk} {lA : Option Addr} {lc : Nat} {l : List File} (hmk : MakeR w v rs m) (hfl : SlR fileF w lA l.length l) (hgb : GBd m l) (goal : Str) (hcb : ∀ x ∈ candF m l goal, x.length ≤ 200) :
    ∀ (f : Nat), f ≤ 100 → ∀ (u : World), Ext w u → ∀ (wA : Option Addr) (wc : Nat) (way : List Str) (oA : Option Addr) (oc : Nat) (os : List (RulA × Grp)) (out : List Grp) (name : Str), SlR strF u wA way.length way → GrpsR u oA os out → out.length ≤ 10 → os.length ≤ oc → (∀ g ∈ out, GB3 g) → way.length ≤ 2 * (100 - f) → name ∈ candF m l goal → leftF (candF m l goal) way < f →
      Calls Tryz.prog 39 #[mkV v m, .slice lA l.length lc, S name, .slice wA way.length wc, .slice oA os.length oc] u (RVisRes u (visitF m l f way out name)) := by
  intro f
  induction f with
  | zero => intro _ u _ wA wc way oA oc os out name _ _ _ _ _ _ _ hlt; omega
  | succ f ih =>
    intro hf u hxu wA wc way oA oc os out name hW hG h10o hoc hB3 hwl hcn hlt
    have hnl : name.length ≤ 200 := hcb name hcn
    have HML := Lib.hid (hml.ext hxu)
    have HMK := Lib.hid (hmk.ext hxu)
    have HFL := Lib.hid (hfl.ext hxu)
    have HGB := Lib.hid hgb
    have hln := hgb.n
    have HI := Lib.hid ih
    have HLt := Lib.hid (And.intro hlt hcn)
    have HW := Lib.hid hW
    have HG := Lib.hid hG
    have HB3 := Lib.hid hB3
    have HXU := Lib.hid hxu
    have hol : Hid (os.length = out.length) := hG.row.1
    have hos : os.length ≤ 10 := by have := hG.row.1; omega
    obtain ⟨vA, vc, rA, rc, pA, pc⟩ := v
    obtain ⟨u1, hu1⟩ : ∃ z, z = u.alloc (.cells #[.slice vA m.vars.length vc, .slice rA m.rules.length rc, .slice pA m.phony.length pc] makeT) := ⟨_, rfl⟩
    obtain ⟨b5, hb5⟩ : ∃ g, g = u.heap.size := ⟨_, rfl⟩
    have X1 : Hid (Ext u u1) := by rw [hu1]; exact (Only.refl No u).alloc _
    have C1 : Hid (Cs u1 b5 makeT #[.slice vA m.vars.length vc, .slice rA m.rules.length rc, .slice pA m.phony.length pc]) := by rw [hu1, hb5]; exact Cs.new _ _ _
    have HIn := Lib.hid (In_c (c := wc) (hW.ext X1.out) (by omega) name)
    obtain ⟨q, hq⟩ : ∃ q, q = inS way name := ⟨_, rfl⟩
    rw [← hq] at HIn
    have HQ := Lib.hid hq
    have HMa := Lib.hid (fun z (hz : Ext u z) => RMaker_c (c := oc) (hG.ext hz) (by omega) (fun g hg => by have := (hB3 g hg).1; omega) name)
    rw [← hol.out] at HMa
    clear hxu hml hmk hfl hgb ih hlt hcn hW hG hB3 hq
    go_enter Tryz.func39, Tryz.ntmps39
    go_upto_region 1 with fail
    rw [← hu1, ← hb5]
    clear hu1 hb5
    go_wp2_with fail
    refine HIn.out.mono ?_
    rintro e u2 ⟨rfl, hx⟩
    have X2 := Lib.hid (X1.out.then_ext hx)
    have C2 := Lib.hid (C1.out.keep hx id)
    clear hx HIn X1 C1
    cases q with
    | true =>
      go_wp2_with fail
      go_ret2
      have hv : visitF m l (f + 1) way out name = (out, 8) := by rw [visitF, if_pos HQ.out.symm]
      rw [hv]
      exact ⟨oA, oc, os, os.length, rfl, fun h => absurd (show (8 : Int) = 0 from h) (by decide), X2.out⟩
    | false =>
      have HM2 := Lib.hid (HMa.out u2 X2.out)
      clear HMa
      cases hm : makerF out name with
      | some k =>
        rw [hm] at HM2
        have t1 : decide ((0 : Int) ≤ idxI (some k)) = true := by rw [decide_eq_true_iff]; exact Int.natCast_nonneg k
        generalize idxI (some k) = ix at HM2 t1
        go_wp2_with fail
        refine HM2.out.mono ?_
        rintro e u3 ⟨rfl, hx⟩
        go_wp2_with fail
        go_ret2
        have hv : visitF m l (f + 1) way out name = (out, 0) := by rw [visitF, if_neg (by rw [← HQ.out]; decide), if_pos (by rw [hm]; rfl)]
        rw [hv]
        exact ⟨oA, oc, os, os.length, rfl, fun _ => ⟨rfl, HG.out.ext (X2.out.then_ext hx), hoc⟩, X2.out.then_ext hx⟩
      | none =>
        rw [hm, show idxI none = (-1 : Int) from rfl] at HM2
        have HMf : Hid ((makerF out name).isSome = false) := by rw [Hid, hm]; rfl
        clear hm
        go_wp2_with fail
        refine HM2.out.mono ?_
        rintro e u3 ⟨rfl, hx⟩
        have X3 := Lib.hid (X2.out.then_ext hx)
        have C3 := Lib.hid (C2.out.keep hx id)
        have k0 : u3.cell? ⟨b5, 0, none⟩ = some (.slice vA m.vars.length vc) := C3.out.cell 0
        have k1 : u3.cell? ⟨b5, 1, none⟩ = some (.slice rA m.rules.length rc) := C3.out.cell 1
        have k2 : u3.cell? ⟨b5, 2, none⟩ = some (.slice pA m.phony.length pc) := C3.out.cell 2
        have HRu := Lib.hid (RFor_c (lc := lc) (HML.out.ext X3.out) (HMK.out.ext X3.out) (HFL.out.ext X3.out) HGB.out name hnl)
        obtain ⟨o, ho⟩ : ∃ o, o = ruleF m l name := ⟨_, rfl⟩
        rw [← ho] at HRu
        have HO := Lib.hid ho
        clear ho hx HM2 C2 X2
        go_wp2_with fail
        refine HRu.out.mono ?_
        rintro e u4 h4
        clear HRu k0 k1 k2
        cases o with
        | none =>
          obtain ⟨rfl, hx4⟩ := h4
          obtain ⟨u5, hu5⟩ : ∃ z, z = u4.alloc (.cells #[.slice none 0 0, .slice none 0 0, .slice none 0 0, .bool false] grpT) := ⟨_, rfl⟩
          have X5 : Hid (Ext u u5) := by rw [hu5]; exact X3.out.then_ext (hx4.then_ext ((Only.refl No _).alloc _))
          clear hx4
          go_upto_region 7 with fail
          rw [← hu5]
          clear hu5
          have HGt := Lib.hid (RGet_c (c := lc) (HFL.out.ext X5.out) (by omega) name)
          obtain ⟨q3, hq3⟩ : ∃ q, q = isF l name := ⟨_, rfl⟩
          rw [show getB name l = q3 from hq3.symm] at HGt
          have hv : Hid (visitF m l (f + 1) way out name = if q3 = true then (out, 0) else (out, 5)) := by
            rw [Hid, visitF, if_neg (by rw [← HQ.out]; decide), if_neg (by rw [HMf.out]; decide), ← HO.out, hq3]
          clear hq3
          go_wp2_with fail
          refine HGt.out.mono ?_
          rintro e u6 ⟨rfl, hx⟩
          have X6 := Lib.hid (X5.out.then_ext hx)
          clear hx HGt
          cases q3 with
          | false =>
            go_wp2_with fail
            go_ret2
            rw [hv.out]
            exact ⟨oA, oc, os, os.length, rfl, fun h => absurd (show (5 : Int) = 0 from h) (by decide), X6.out⟩
          | true =>
            go_wp2_with fail
            go_ret2
            rw [hv.out]
            exact ⟨oA, oc, os, os.length, rfl, fun _ => ⟨rfl, HG.out.ext X6.out, hoc⟩, X6.out⟩
        | some G =>
          obtain ⟨a, rfl, f1, f2, f3, hx4⟩ := h4
          obtain ⟨u5, hu5⟩ : ∃ z, z = u4.alloc (.cells #[.slice a.tA G.targets.length a.tc, .slice a.nA G.needs.length a.nc, .slice a.cA G.cmds.length a.cc, .bool G.phony] grpT) := ⟨_, rfl⟩
          obtain ⟨bx, hbx⟩ : ∃ b, b = u4.heap.size := ⟨_, rfl⟩
          have x5 : Ext u4 u5 := by rw [hu5]; exact (Only.refl No _).alloc _
          have X5 := Lib.hid (X3.out.then_ext (hx4.then_ext x5))
          have CX : Hid (Cs u5 bx grpT #[.slice a.tA G.targets.length a.tc, .slice a.nA G.needs.length a.nc, .slice a.cA G.cmds.length a.cc, .bool G.phony]) := by rw [hu5, hbx]; exact Cs.new _ _ _
          have CM := Lib.hid (C3.out.keep (hx4.then_ext x5) id)
          have HRw0 : Hid (SlR strF u5 a.tA G.targets.length G.targets ∧ SlR strF u5 a.nA G.needs.length G.needs ∧ SlR strF u5 a.cA G.cmds.length G.cmds) := ⟨(f1.row (by decide)).ext x5, (f2.row (by decide)).ext x5, (f3.row (by decide)).ext x5⟩
          go_upto_region 12 with fail
          rw [← hu5, ← hbx]
          clear hu5 hbx x5 hx4 f1 f2 f3 C3
          obtain ⟨hb1, hb2, hb3⟩ := ruleF_b HGB.out HO.out.symm
          have k0 : ∀ ξ : X u5 No, ξ.v.cell? ⟨bx, 0, none⟩ = some (.slice a.tA G.targets.length a.tc) := CX.out.x id 0
          refine Mix.wp_draw [1, 4] 100 (Cl u5 No) (by kernel_rfl) (by kernel_rfl) (Cl.of (Only.refl _ _).drew) ?_
          (repeat' (refine Mix.lex_quiet0 rfl rfl rfl ?_; intro K hK; go_big_quiet_op; go_big_quiet_on))
          refine Mix.lex_goes0 rfl rfl ?_
          intro K hK
          refine goes_app0 (T := strF) st_ty rfl rfl rfl (HW.out.ext (X5.out.then_ext (Only.refl No _).drew)) (by decide) (str_enc1 _) (by omega) ?_
          intro A1 c1 u6 hF1
          have XD : Hid (Ext u5 u5.drew) := (Only.refl No _).drew
          have F6 := Lib.hid hF1
          refine hK _ _ (fun _ => Cl.of (XD.out.then_ext hF1.ext)) ?_
          clear hK K hF1
          simp only [Act.put, List.setIfInBounds_toArray, List.set_cons_succ, List.set_cons_zero]
          (repeat' (refine Mix.lex_quiet0 rfl rfl rfl ?_; intro K hK; go_big_quiet_op; go_big_quiet_on))
          refine Mix.lex_goes0 rfl rfl ?_
          intro K hK
          refine goes_append (v := .slice A1 way.length c1) (n := way.length) (xs := way.flatMap strF.enc) st_ty rfl rfl rfl F6.out.own ((HRw0.out.1.ext (XD.out.then_ext F6.out.ext)).rd (by decide)) (str_enc1 _) (by omega) ?_
          intro A2 c2 u7 hown hg hb
          have F7 : Hid (Fresh strF 9 u5.drew u7 A2 c2 (way ++ G.targets)) := F6.out.grow (m := G.targets.length) (ys := G.targets) rfl hown hg hb
          refine hK _ _ (fun _ => Cl.of (XD.out.then_ext F7.out.ext)) ?_
          clear hK K hown hg hb
          simp only [Act.put, List.setIfInBounds_toArray, List.set_cons_succ, List.set_cons_zero]
          (repeat' (refine Mix.lex_quiet0 rfl rfl rfl ?_; intro K hK; go_big_quiet_op; go_big_quiet_on))
          refine Mix.lex_nil ?_
          have X57 := Lib.hid (XD.out.then_ext F7.out.ext)
          have HW7 : Hid (SlR strF u7 A2 (way ++ G.targets).length (way ++ G.targets)) := F7.out.row (by decide)
          have X7 := Lib.hid (X5.out.then_ext X57.out)
          have HRw := Lib.hid (And.intro (HRw0.out.1.ext X57.out) (And.intro (HRw0.out.2.1.ext X57.out) (HRw0.out.2.2.ext X57.out)))
          have CX7 := Lib.hid (CX.out.keep X57.out id)
          have CM7 := Lib.hid (CM.out.keep X57.out id)
          have HLe := Lib.hid (show way.length + G.targets.length ≤ 2 * (100 - f) ∧ leftF (candF m l goal) (way ++ G.targets) < f ∧ ∀ t ∈ G.needs, t ∈ candF m l goal by
            refine ⟨by omega, ?_, fun t ht => ruleF_cand HO.out.symm t ht⟩
            have := leftF_lt HLt.out.2 HQ.out.symm (ruleF_own HO.out.symm)
            have := HLt.out.1
            omega)
          have hf1 : f ≤ 100 := by omega
          have hwle : way.length + G.targets.length ≤ 2 * (100 - f) := HLe.out.1
          have HG7 := Lib.hid (HG.out.ext X7.out)
          clear F6 F7 XD k0 CX CM HRw0
          obtain ⟨nA0, hnA⟩ : ∃ A, A = a.nA := ⟨_, rfl⟩
          have HN0 : Hid (SlR strF u7 nA0 G.needs.length G.needs) := by rw [Hid, hnA]; exact HRw.out.2.1
          have HK1 : Hid (∀ z, Ext u7 z → z.cell? ⟨bx, 1, none⟩ = some (.slice nA0 G.needs.length a.nc)) := fun z hz => by rw [hnA]; exact (CX7.out.keep hz id).cell 1
          clear hnA
          go_wp2_with fail
          go_loopw [4, 18] (fun ov i wr => ∃ k : Nat, k ≤ G.needs.length ∧ i = .int .i64 k ∧ ∃ (A : Option Addr) (c : Nat) (os2 : List (RulA × Grp)) (out2 : List Grp), ov = .slice A os2.length c ∧ GrpsR wr A os2 out2 ∧ out2.length ≤ 10 ∧ os2.length ≤ c ∧ (∀ g ∈ out2, GB3 g) ∧ Ext u7 wr ∧ needsF (visitF m l f (way ++ G.targets)) out2 (G.needs.drop k) = needsF (visitF m l f (way ++ G.targets)) out G.needs) (fun _ i _ => G.needs.length - (intOf i).toNat)
          case atStart => exact ⟨0, Nat.zero_le _, rfl, oA, oc, os, out, rfl, HG7.out, h10o, hoc, HB3.out, Only.refl _ _, rfl⟩
          case round =>
            obtain ⟨k, hk, rfl, A3, c3, os2, out2, rfl, hG, hl2, hc2, hB2, hxr, hnE⟩ := hrel
            have HGo := Lib.hid hG
            have HB2 := Lib.hid hB2
            have XJ := Lib.hid hxr
            have E8 := Lib.hid hnE
            have hol2 : Hid (os2.length = out2.length) := hG.row.1
            have hos2 : os2.length ≤ 10 := by have := hG.row.1; omega
            have k1 := HK1.out wr hxr
            clear hG hB2 hxr hnE
            by_cases hlt : k < G.needs.length
            · obtain ⟨bn, on, t, rfl, ht, ct⟩ := strs_get HN0.out hlt
              have HT := Lib.hid ht
              have HV : Hid (∀ z, Ext wr z → Calls Tryz.prog 39 #[mkV ⟨vA, vc, rA, rc, pA, pc⟩ m, .slice lA l.length lc, S t, .slice A2 (way.length + G.targets.length : Nat) c2, .slice A3 os2.length c3] z (RVisRes z (visitF m l f (way ++ G.targets) out2 t))) := fun z hz => by
                have h := HI.out hf1 z (HXU.out.then_ext (X7.out.then_ext (XJ.out.then_ext hz))) A2 c2 (way ++ G.targets) A3 c3 os2 out2 t (HW7.out.ext (XJ.out.then_ext hz)) (HGo.out.ext hz) hl2 hc2 HB2.out (by rw [List.length_append]; exact HLe.out.1) (HLe.out.2.2 t (List.mem_of_getElem? ht)) HLe.out.2.1
                rw [List.length_append] at h
                exact h
              have HNn := Lib.hid (visitF_nonneg m l f (way ++ G.targets) out2 t)
              have HAl := Lib.hid (visitF_all (ruleF_b3 HGB.out) f (way ++ G.targets) out2 t HB2.out)
              have HLn := Lib.hid (visitF_len (m := m) (l := l) f (way ++ G.targets) out2 t hl2)
              obtain ⟨⟨out3, code⟩, hr⟩ : ∃ r, r = visitF m l f (way ++ G.targets) out2 t := ⟨_, rfl⟩
              rw [← hr] at HV HNn HAl HLn
              have HR := Lib.hid hr
              have hS := Lib.hid (needs_step HT.out HR.out.symm)
              have q0 : ∀ ξ : X wr No, ξ.v.cell? ⟨b5, 0, none⟩ = some (.slice vA m.vars.length vc) := (CM7.out.keep XJ.out id).x id 0
              have q1 : ∀ ξ : X wr No, ξ.v.cell? ⟨b5, 1, none⟩ = some (.slice rA m.rules.length rc) := (CM7.out.keep XJ.out id).x id 1
              have q2 : ∀ ξ : X wr No, ξ.v.cell? ⟨b5, 2, none⟩ = some (.slice pA m.phony.length pc) := (CM7.out.keep XJ.out id).x id 2
              have q3 : ∀ ξ : X wr No, ξ.v.cell? ⟨bx, 1, none⟩ = some (.slice (some ⟨bn, on, none⟩) G.needs.length a.nc) := fun ξ => HK1.out _ (XJ.out.then_ext ξ.h)
              have ct' : ∀ ξ : X wr No, ξ.v.cell? ⟨bn, on + k, none⟩ = some (S t) := fun ξ => ct ⟨_, XJ.out.then_ext ξ.h⟩
              clear ht ct hr
              go_upto_region 16 with fail
              refine Mix.wp_draw [9] 100 (Cl wr No) (by kernel_rfl) (by kernel_rfl) (Cl.of (Only.refl _ _).drew) ?_
              (repeat' (refine Mix.lex_quiet0 rfl rfl rfl ?_; intro K hK; go_big_quiet_op; go_big_quiet_on))
              ((first | refine Mix.lex_goes0 rfl rfl ?_ | refine Mix.lex_goesG rfl rfl rfl (by with_reducible rfl) rfl ?_); intro K hK; go_simp)
              refine (HV.out _ (Only.refl No _).drew).mono ?_
              rintro e u8 ⟨A4, c4, os4, n4, he, hz, hx⟩
              have he : e = .returned (.tuple #[.slice A4 n4 c4, .int .i64 code]) := he
              subst he
              have X8 : Hid (Ext wr u8) := (Only.refl No wr).drew.then_ext hx
              have HZ := Lib.hid hz
              have hnn : 0 ≤ code := HNn.out
              refine ⟨_, rfl, hK _ _ (fun _ => Cl.of X8.out) ?_⟩
              clear hK K hz hx q0 q1 q2 q3 ct' HNn
              simp only [Act.put, List.setIfInBounds_toArray, List.set_cons_succ, List.set_cons_zero]
              (repeat' (refine Mix.lex_quiet0 rfl rfl rfl ?_; intro K hK; go_big_quiet_op; go_big_quiet_on))
              refine Mix.lex_nil ?_
              by_cases h0 : code = 0
              · subst h0
                obtain ⟨hz1, hz2, hz3⟩ := HZ.out (by first | trivial | rfl)
                subst hz1
                have HZ2 : Hid (GrpsR u8 A4 os4 out3) := hz2
                clear hz2
                go_wp2_with fail
                go_roundw
                case rel => exact ⟨k + 1, by omega, by go_num, A4, c4, os4, out3, rfl, HZ2.out, HLn.out, hz3, HAl.out, XJ.out.then_ext X8.out, by rw [← E8.out, hS.out]; rfl⟩
                case measure => simp [intOf]; omega
              · have t1 : decide ((0 : Int) < code) = true := by rw [decide_eq_true_iff]; omega
                go_wp2_with fail
                go_ret2
                have hv : visitF m l (f + 1) way out name = (out3, code) := by
                  rw [visit_some HQ.out.symm HMf.out HO.out.symm (by rw [← E8.out, hS.out, if_pos (show (out3, code).2 ≠ 0 from h0)])]
                  exact if_pos h0
                rw [hv]
                exact ⟨A3, c3, os2, os2.length, rfl, fun h => absurd h h0, X7.out.then_ext (XJ.out.then_ext X8.out)⟩
            · obtain rfl : k = G.needs.length := by omega
              have hE : needsF (visitF m l f (way ++ G.targets)) out G.needs = (out2, 0) := by
                rw [← E8.out, List.drop_of_length_le (Nat.le_refl _)]; rfl
              have hv := Lib.hid (visit_some HQ.out.symm HMf.out HO.out.symm hE)
              have X8 := Lib.hid (X7.out.then_ext XJ.out)
              clear hE E8 HI HN0 HK1
              by_cases h10 : out2.length = 10
              · have t10 : ((os2.length : Int) == 10) = true := by rw [beq_iff_eq]; have := hol2.out; omega
                go_wp2_with fail
                go_ret2
                rw [hv.out, if_neg (by simp), if_pos h10]
                exact ⟨A3, c3, os2, os2.length, rfl, fun h => absurd (show (2 : Int) = 0 from h) (by decide), X8.out⟩
              · have h10' : os2.length ≤ 9 := by have := hol2.out; omega
                have HSo : Hid (∀ z, Ext wr z → SlR grpF z A3 os2.length os2) := fun z hz => by
                  have := HGo.out.row.ext hz
                  rw [← hol2.out] at this
                  exact this
                have CXr := Lib.hid (CX7.out.keep XJ.out id)
                have b0 : ∀ ξ : X wr No, ξ.v.cell? ⟨bx, 0, none⟩ = some (.slice a.tA G.targets.length a.tc) := CXr.out.x id 0
                have b1 : ∀ ξ : X wr No, ξ.v.cell? ⟨bx, 1, none⟩ = some (.slice a.nA G.needs.length a.nc) := CXr.out.x id 1
                have b2 : ∀ ξ : X wr No, ξ.v.cell? ⟨bx, 2, none⟩ = some (.slice a.cA G.cmds.length a.cc) := CXr.out.x id 2
                have b3 : ∀ ξ : X wr No, ξ.v.cell? ⟨bx, 3, none⟩ = some (.bool G.phony) := CXr.out.x id 3
                go_upto_region 22 with fail
                refine Mix.wp_tree 7 [1, 3, 4] (Cl wr No) rfl (by kernel_rfl) (by kernel_rfl) (Cl.drew_ (X.here wr No)) ?_
                obtain ⟨μ0, hμ0⟩ : ∃ z, z = wr.drew := ⟨_, rfl⟩
                have Y : Hid (Ext wr μ0) := by rw [hμ0]; exact (Only.refl No wr).drew
                rw [← hμ0]
                clear hμ0
                (refine Mix.tree_quiet (i := 0) (by kernel_rfl) rfl rfl rfl rfl ?_; intro K hK; go_big_quiet_op; go_big_quiet_on); (refine Mix.tree_quiet (i := 2) (by kernel_rfl) rfl rfl rfl rfl ?_; intro K hK; go_big_quiet_op; go_big_quiet_on)
                refine Mix.tree_two (i := 1) (j := 3) (by kernel_rfl) (by kernel_rfl) rfl rfl rfl rfl rfl rfl ?_ ?_
                ·
                  intro K hK
                  refine goes_app0 (T := grpF) gr_ty rfl rfl rfl (HSo.out μ0 Y.out) (by decide) (grp_enc1 _) (by omega) ?_
                  intro A1 c1 u1 hF1
                  have F0 : Hid (∀ q, (Value.slice A1 os2.length c1).ownBlock = some q → wr.heap.size ≤ q) := fun q hq => Nat.le_trans Y.out.size (hF1.new q hq)
                  have F : Hid (Fresh grpF grpT u u1 A1 c1 os2) := hF1.from (X8.out.then_ext Y.out)
                  have Y := Lib.hid (Y.out.then_ext hF1.ext)
                  refine hK _ _ (Cl.of Y.out) ?_
                  clear hK K hF1
                  simp only [Act.put, List.setIfInBounds_toArray, List.set_cons_succ, List.set_cons_zero]
                  refine Mix.tree_one (i := 3) (by kernel_rfl) (by kernel_rfl) rfl rfl rfl ?_
                  intro K hK
                  go_simp
                  obtain ⟨va, hva⟩ : ∃ u, u = (u1).alloc (.cells #[.slice a.tA G.targets.length a.tc, .slice a.nA G.needs.length a.nc, .slice a.cA G.cmds.length a.cc, .bool G.phony] grpT) := ⟨_, rfl⟩
                  obtain ⟨gb, hgb⟩ : ∃ g, g = (u1).heap.size := ⟨_, rfl⟩
                  have CB : Hid (Cs va gb grpT #[.slice a.tA G.targets.length a.tc, .slice a.nA G.needs.length a.nc, .slice a.cA G.cmds.length a.cc, .bool G.phony]) := by rw [hva, hgb]; exact Cs.new _ _ _
                  have yva : Ext u1 va := by rw [hva]; exact (Only.refl No _).alloc _
                  have F := Lib.hid (F.out.on yva)
                  have Y := Lib.hid (Y.out.then_ext yva)
                  rw [← hva, ← hgb]
                  refine hK _ _ (Cl.of Y.out) ?_
                  clear hK K hva hgb yva
                  simp only [Act.put, List.setIfInBounds_toArray, List.set_cons_succ, List.set_cons_zero]
                  have FN : Hid (∀ q, (Value.slice A1 os2.length c1).ownBlock = some q → wr.heap.size ≤ q) := F0.out
                  refine Mix.tree_one (i := 4) (by kernel_rfl) (by kernel_rfl) rfl rfl rfl ?_
                  intro K hK
                  refine goes_append (v := .slice A1 os2.length c1) (n := os2.length) (xs := os2.flatMap grpF.enc) gr_ty rfl rfl rfl F.out.own (rd_cs4 (cs := [.slice a.tA G.targets.length a.tc, .slice a.nA G.needs.length a.nc, .slice a.cA G.cmds.length a.cc, .bool G.phony]) CB.out) (by simp [Value.oneCell']) (by omega) ?_
                  intro A2 c2 w7 hown7 hg7 hb7
                  have F7 : Hid (Fresh grpF grpT u w7 A2 c2 (os2 ++ [(a, G)])) := F.out.grow (m := 1) (ys := [(a, G)]) rfl hown7 hg7 hb7
                  have Y7 : Ext wr w7 := Y.out.trans ((Only.refl (fun q => (Value.slice A1 os2.length c1).ownBlock = some q) _).grown hg7 fun q e => .inr e) fun q hq e => by
                    have := FN.out q e
                    omega
                  have Y7 := Lib.hid Y7
                  refine hK _ _ (Cl.of Y7.out) ?_
                  clear hK K hown7 hg7 hb7
                  simp only [Act.put, List.setIfInBounds_toArray, List.set_cons_succ, List.set_cons_zero]
                  (refine Mix.tree_quiet (i := 5) (by kernel_rfl) rfl rfl rfl rfl ?_; intro K hK; go_big_quiet_op; go_big_quiet_on); (refine Mix.tree_quiet (i := 6) (by kernel_rfl) rfl rfl rfl rfl ?_; intro K hK; go_big_quiet_op; go_big_quiet_on)
                  refine Mix.tree_nil ?_
                  go_wp2_with fail
                  go_ret2
                  rw [hv.out, if_neg (by simp), if_neg h10]
                  refine ⟨A2, c2, os2 ++ [(a, G)], os2.length + 1, rfl, fun _ => ⟨by simp, ⟨?_, fun x hx => ?_, ?_⟩, own_cap F7.out.own⟩, X8.out.then_ext Y7.out⟩
                  · rw [List.length_append, ← hol2.out]
                    have := F7.out.row (by decide)
                    rw [List.length_append] at this
                    exact this
                  · rcases List.mem_append.1 hx with hx | hx
                    · obtain ⟨q1, q2, q3⟩ := HGo.out.rr x hx
                      exact ⟨q1.ext Y7.out, q2.ext Y7.out, q3.ext Y7.out⟩
                    · obtain rfl := List.mem_singleton.1 hx
                      obtain ⟨q1, q2, q3⟩ := HRw.out
                      have z := XJ.out.then_ext Y7.out
                      exact ⟨q1.ext z, q2.ext z, q3.ext z⟩
                  · rw [List.map_append, HGo.out.om]; rfl
                ·
                  intro K hK
                  go_simp
                  obtain ⟨va, hva⟩ : ∃ u, u = (μ0).alloc (.cells #[.slice a.tA G.targets.length a.tc, .slice a.nA G.needs.length a.nc, .slice a.cA G.cmds.length a.cc, .bool G.phony] grpT) := ⟨_, rfl⟩
                  obtain ⟨gb, hgb⟩ : ∃ g, g = (μ0).heap.size := ⟨_, rfl⟩
                  have CB : Hid (Cs va gb grpT #[.slice a.tA G.targets.length a.tc, .slice a.nA G.needs.length a.nc, .slice a.cA G.cmds.length a.cc, .bool G.phony]) := by rw [hva, hgb]; exact Cs.new _ _ _
                  have yva : Ext μ0 va := by rw [hva]; exact (Only.refl No _).alloc _
                  have Y := Lib.hid (Y.out.then_ext yva)
                  rw [← hva, ← hgb]
                  refine hK _ _ (Cl.of Y.out) ?_
                  clear hK K hva hgb yva
                  simp only [Act.put, List.setIfInBounds_toArray, List.set_cons_succ, List.set_cons_zero]
                  refine Mix.tree_one (i := 1) (by kernel_rfl) (by kernel_rfl) rfl rfl rfl ?_
                  intro K hK
                  refine goes_app0 (T := grpF) gr_ty rfl rfl rfl (HSo.out va Y.out) (by decide) (grp_enc1 _) (by omega) ?_
                  intro A1 c1 u1 hF1
                  have F0 : Hid (∀ q, (Value.slice A1 os2.length c1).ownBlock = some q → wr.heap.size ≤ q) := fun q hq => Nat.le_trans Y.out.size (hF1.new q hq)
                  have F : Hid (Fresh grpF grpT u u1 A1 c1 os2) := hF1.from (X8.out.then_ext Y.out)
                  have CB := Lib.hid (CB.out.keep hF1.ext id)
                  have Y := Lib.hid (Y.out.then_ext hF1.ext)
                  refine hK _ _ (Cl.of Y.out) ?_
                  clear hK K hF1
                  simp only [Act.put, List.setIfInBounds_toArray, List.set_cons_succ, List.set_cons_zero]
                  have FN : Hid (∀ q, (Value.slice A1 os2.length c1).ownBlock = some q → wr.heap.size ≤ q) := F0.out
                  refine Mix.tree_one (i := 4) (by kernel_rfl) (by kernel_rfl) rfl rfl rfl ?_
                  intro K hK
                  refine goes_append (v := .slice A1 os2.length c1) (n := os2.length) (xs := os2.flatMap grpF.enc) gr_ty rfl rfl rfl F.out.own (rd_cs4 (cs := [.slice a.tA G.targets.length a.tc, .slice a.nA G.needs.length a.nc, .slice a.cA G.cmds.length a.cc, .bool G.phony]) CB.out) (by simp [Value.oneCell']) (by omega) ?_
                  intro A2 c2 w7 hown7 hg7 hb7
                  have F7 : Hid (Fresh grpF grpT u w7 A2 c2 (os2 ++ [(a, G)])) := F.out.grow (m := 1) (ys := [(a, G)]) rfl hown7 hg7 hb7
                  have Y7 : Ext wr w7 := Y.out.trans ((Only.refl (fun q => (Value.slice A1 os2.length c1).ownBlock = some q) _).grown hg7 fun q e => .inr e) fun q hq e => by
                    have := FN.out q e
                    omega
                  have Y7 := Lib.hid Y7
                  refine hK _ _ (Cl.of Y7.out) ?_
                  clear hK K hown7 hg7 hb7
                  simp only [Act.put, List.setIfInBounds_toArray, List.set_cons_succ, List.set_cons_zero]
                  (refine Mix.tree_quiet (i := 5) (by kernel_rfl) rfl rfl rfl rfl ?_; intro K hK; go_big_quiet_op; go_big_quiet_on); (refine Mix.tree_quiet (i := 6) (by kernel_rfl) rfl rfl rfl rfl ?_; intro K hK; go_big_quiet_op; go_big_quiet_on)
                  refine Mix.tree_nil ?_
                  go_wp2_with fail
                  go_ret2
                  rw [hv.out, if_neg (by simp), if_neg h10]
                  refine ⟨A2, c2, os2 ++ [(a, G)], os2.length + 1, rfl, fun _ => ⟨by simp, ⟨?_, fun x hx => ?_, ?_⟩, own_cap F7.out.own⟩, X8.out.then_ext Y7.out⟩
                  · rw [List.length_append, ← hol2.out]
                    have := F7.out.row (by decide)
                    rw [List.length_append] at this
                    exact this
                  · rcases List.mem_append.1 hx with hx | hx
                    · obtain ⟨q1, q2, q3⟩ := HGo.out.rr x hx
                      exact ⟨q1.ext Y7.out, q2.ext Y7.out, q3.ext Y7.out⟩
                    · obtain rfl := List.mem_singleton.1 hx
                      obtain ⟨q1, q2, q3⟩ := HRw.out
                      have z := XJ.out.then_ext Y7.out
                      exact ⟨q1.ext z, q2.ext z, q3.ext z⟩
                  · rw [List.map_append, HGo.out.om]; rfl
set_option maxRecDepth 100000 in
set_option maxHeartbeats 8000000 in
theorem GroupsOf_c {w : World} (hml : Ml w) {v : MkV} {rs : List (RulA × Rul)} {m : Mk} {lA : Option Addr} {lc : Nat} {l : List File} (hmk : MakeR w v rs m) (hfl : SlR fileF w lA l.length l) (hgb : GBd m l) (goal : Str) (hgl : goal.length ≤ 10000) (hcb : nameB goal = true → ∀ x ∈ candF m l goal, x.length ≤ 200) (hcl : (candF m l goal).length < 100) :
    Calls Tryz.prog 12 #[mkV v m, .slice lA l.length lc, S goal] w fun e w' => ∃ (A : Option Addr) (c : Nat) (os : List (RulA × Grp)), e = .returned (.tuple #[.slice A (groupsF m l goal).1.length c, .int .i64 (groupsF m l goal).2]) ∧ GrpsR w' A os (groupsF m l goal).1 ∧ Ext w w' ∧ (groupsF m l goal).1.length ≤ c := by
  have HN := Lib.hid (fun w => NameMay_c goal w hgl)
  obtain ⟨nb, hnb⟩ : ∃ b, b = nameB goal := ⟨_, rfl⟩
  rw [← hnb] at HN hcb
  have HNb := Lib.hid hnb
  have HML := Lib.hid hml
  have HMK := Lib.hid hmk
  have HFL := Lib.hid hfl
  have HGB := Lib.hid hgb
  have HCB := Lib.hid hcb
  have HCL := Lib.hid hcl
  obtain ⟨vA, vc, rA, rc, pA, pc⟩ := v
  obtain ⟨w1, hw1⟩ : ∃ u, u = w.alloc (.cells #[.slice vA m.vars.length vc, .slice rA m.rules.length rc, .slice pA m.phony.length pc] makeT) := ⟨_, rfl⟩
  obtain ⟨b3, hb3⟩ : ∃ b, b = w.heap.size := ⟨_, rfl⟩
  have X1 : Hid (Ext w w1) := by rw [hw1]; exact (Only.refl No w).alloc _
  have C1 : Hid (Cs w1 b3 makeT #[.slice vA m.vars.length vc, .slice rA m.rules.length rc, .slice pA m.phony.length pc]) := by rw [hw1, hb3]; exact Cs.new _ _ _
  clear hml hmk hfl hgb hcb hcl hnb
  go_enter Tryz.func12, Tryz.ntmps12
  go_upto_region 1 with fail
  rw [← hw1, ← hb3]
  clear hw1 hb3
  go_wp2_with fail
  refine (HN.out w1).mono ?_
  rintro e u2 ⟨rfl, hx2⟩
  have C2 := Lib.hid (C1.out.keep hx2 id)
  have X2 := Lib.hid (X1.out.then_ext hx2)
  clear hx2 HN X1 C1
  cases nb with
  | false =>
    go_wp2_with fail
    go_ret2
    have hv : groupsF m l goal = ([], 3) := by rw [groupsF, if_pos HNb.out.symm]
    rw [hv]
    exact ⟨none, 0, [], rfl, GrpsR.nil _, X2.out, Nat.le_refl _⟩
  | true =>
    have k0 : u2.cell? ⟨b3, 0, none⟩ = some (.slice vA m.vars.length vc) := C2.out.cell 0
    have k1 : u2.cell? ⟨b3, 1, none⟩ = some (.slice rA m.rules.length rc) := C2.out.cell 1
    have k2 : u2.cell? ⟨b3, 2, none⟩ = some (.slice pA m.phony.length pc) := C2.out.cell 2
    have HV : Hid (Calls Tryz.prog 39 #[mkV ⟨vA, vc, rA, rc, pA, pc⟩ m, .slice lA l.length lc, S goal, .slice none 0 0, .slice none 0 0] u2 (RVisRes u2 (visitF m l 100 [] [] goal))) :=
      rvisit_c HML.out HMK.out HFL.out HGB.out goal (HCB.out (by first | trivial | rfl)) 100 (Nat.le_refl _) u2 X2.out none 0 [] none 0 [] [] goal SlR.none_ (GrpsR.nil _) (Nat.zero_le _) (Nat.zero_le _) (fun x hx => by cases hx) (Nat.zero_le _) (by unfold candF; simp) (Nat.lt_of_le_of_lt (leftF_le _ _) HCL.out)
    have hnn := visitF_nonneg m l 100 [] [] goal
    obtain ⟨⟨out, code⟩, hr⟩ : ∃ r, r = visitF m l 100 [] [] goal := ⟨_, rfl⟩
    have hgr : Hid (groupsF m l goal = if code ≠ 0 then ([], code) else (out, 0)) := by
      rw [Hid, groupsF, if_neg (by rw [← HNb.out]; decide), ← hr]
    rw [← hr] at HV hnn
    clear hr
    go_wp2_with fail
    refine HV.out.mono ?_
    rintro e u4 ⟨A, c, os, n, he, hz, hx⟩
    have he : e = .returned (.tuple #[.slice A n c, .int .i64 code]) := he
    subst he
    have X4 := Lib.hid (X2.out.then_ext hx)
    have hnn : 0 ≤ code := hnn
    clear hx HV k0 k1 k2
    by_cases h0 : code = 0
    · subst h0
      obtain ⟨hz1, hz2, hz3⟩ := hz (by first | trivial | rfl)
      subst hz1
      have HZ2 : Hid (GrpsR u4 A os out) := hz2
      clear hz2 hz
      have hol : Hid (os.length = out.length) := HZ2.out.row.1
      go_wp2_with fail
      go_ret2
      rw [hgr.out, if_neg (by simp)]
      exact ⟨A, c, os, by rw [show (out, (0 : Int)).1.length = os.length from hol.out.symm]; rfl, HZ2.out, X4.out, by have := hol.out; show out.length ≤ c; omega⟩
    · have t1 : decide ((0 : Int) < code) = true := by rw [decide_eq_true_iff]; omega
      clear hz
      go_wp2_with fail
      go_ret2
      rw [hgr.out, if_pos h0]
      exact ⟨none, 0, [], rfl, GrpsR.nil _, X4.out, Nat.le_refl _⟩
abbrev intT : TypeId := 3
abbrev uniT : TypeId := 54
def boF : Flat Bool := ⟨1, fun b => [.bool b], fun _ => rfl⟩
def inF : Flat Nat := ⟨1, fun i => [.int .i64 (i : Int)], fun _ => rfl⟩
def unF : Flat ((Option Addr × Nat) × List Nat) := ⟨1, fun x => [.slice x.1.1 x.2.length x.1.2], fun _ => rfl⟩
theorem bos_get {w : World} {A : Option Addr} {n : Nat} {xs : List Bool} (h : SlR boF w A n xs) {k : Nat} (hk : k < n) :
    ∃ b o s, A = some ⟨b, o, none⟩ ∧ xs[k]? = some s ∧ (∀ ξ : X w No, ξ.v.cell? ⟨b, o + k, none⟩ = some (.bool s)) := by
  obtain ⟨b, o, x, e, hb, hx, hc⟩ := h.get hk
  exact ⟨b, o, x, e, hx, fun ξ => (ξ.h.cell hb id).trans (by simpa [boF] using hc 0 _ rfl)⟩
theorem ins_get {w : World} {A : Option Addr} {n : Nat} {xs : List Nat} (h : SlR inF w A n xs) {k : Nat} (hk : k < n) :
    ∃ b o s, A = some ⟨b, o, none⟩ ∧ xs[k]? = some s ∧ (∀ ξ : X w No, ξ.v.cell? ⟨b, o + k, none⟩ = some (.int .i64 (s : Int))) := by
  obtain ⟨b, o, x, e, hb, hx, hc⟩ := h.get hk
  exact ⟨b, o, x, e, hx, fun ξ => (ξ.h.cell hb id).trans (by simpa [inF] using hc 0 _ rfl)⟩
theorem uns_get {w : World} {A : Option Addr} {n : Nat} {xs : List ((Option Addr × Nat) × List Nat)} (h : SlR unF w A n xs) {k : Nat} (hk : k < n) :
    ∃ b o x, A = some ⟨b, o, none⟩ ∧ xs[k]? = some x ∧ (∀ ξ : X w No, ξ.v.cell? ⟨b, o + k, none⟩ = some (.slice x.1.1 x.2.length x.1.2)) := by
  obtain ⟨b, o, x, e, hb, hx, hc⟩ := h.get hk
  exact ⟨b, o, x, e, hx, fun ξ => (ξ.h.cell hb id).trans (by simpa [unF] using hc 0 _ rfl)⟩
abbrev upV (up : List Nat) : Array Value := (up.map fun k : Nat => Value.int .i64 (k : Int)).toArray
theorem upV_get {up : List Nat} {i : Nat} (h : i < up.length) : (upV up)[i]? = some (.int .i64 (up.getD i 0 : Nat)) := by
  simp [upV, List.getD_eq_getElem?_getD, List.getElem?_eq_getElem h]
theorem upV_set (up : List Nat) (i k : Nat) : (upV up).setIfInBounds i (.int .i64 (k : Int)) = upV (up.set i k) := by
  simp [upV, List.map_set]
theorem Cs.ups {w : World} {g : Nat} {up : List Nat} (h : Cs w g intT (upV up)) (i k : Nat) : Cs (w.setCell ⟨g, i, none⟩ (.int .i64 (k : Int))) g intT (upV (up.set i k)) := by
  have := h.set_ i (.int .i64 (k : Int))
  rwa [upV_set] at this
theorem int_info : (Tryz.prog.info? intT).map (fun i => (i.zero, i.size, i.bytes)) = some (some (.int .i64 0), 1, 8) := by kernel_rfl
theorem int_ty : Ety Tryz.prog 54 intT 1 := Ety.mk' Tryz.underlying54 int_info rfl (by omega) (by omega)
theorem un_info : (Tryz.prog.info? uniT).map (fun i => (i.zero, i.size, i.bytes)) = some (some (.slice none 0 0), 1, 24) := by kernel_rfl
theorem un_ty : Ety Tryz.prog 52 uniT 1 := Ety.mk' Tryz.underlying52 un_info rfl (by omega) (by omega)
theorem make_ints (n : Nat) (hn : n ≤ 1000000) (w : World) : (Instr.makeSlice 54 (.int .i64 (n : Int)) (.int .i64 (n : Int))).run Tryz.prog w =
    .ok (.slice (some ⟨w.heap.size, 0, none⟩) n n) (w.alloc (.cells (upV (List.replicate n 0)) intT)) := by
  obtain ⟨i0, hi, hz, h1, h2⟩ := info_parts int_info
  have hb : (i0.bytes : Int) * (n : Int) ≤ 281474976710656 := by rw [h2]; omega
  have hr := run_make (P := Tryz.prog) w 54 intT i0 (.int .i64 0) Tryz.underlying54 hi hz .i64 .i64 n n (by omega) (by omega) hb (by omega)
  simp only [Int.toNat_natCast] at hr
  rw [hr, h1]
  have : madeCells (Value.int .i64 0).cells (n * 1) = upV (List.replicate n 0) := by
    apply Array.ext
    · simp [madeCells, upV]
    · intro i h1 h2
      simp [madeCells, Value.cells, Nat.mod_one, upV]
  rw [this]
theorem run_min_nat {P : Program} (x y : Nat) (ts : Array TypeId) (t : TypeId) (w : World) : (Builtin.min_ ts t #[.int .i64 (x : Int), .int .i64 (y : Int)]).run P w = .ok (.int .i64 ((min x y : Nat) : Int)) w := by
  by_cases h : (x : Int) < (y : Int)
  · have e : min x y = x := by omega
    (simp [Builtin.min_, Builtin.min2, asBool, h, e]) <;> (intros; omega)
  · have e : min x y = y := by omega
    (simp [Builtin.min_, Builtin.min2, asBool, h, e]) <;> (intros; omega)
end Go.Proofs.YtnhaekifcieeoaaGreatDoor
