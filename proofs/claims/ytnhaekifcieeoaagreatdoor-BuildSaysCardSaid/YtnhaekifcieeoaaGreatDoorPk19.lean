/- Put together: Un3, MkW, Gxb, Grb, Gbu. -/
import Derived.Test.YtnhaekifcieeoaaGreatDoorPk16
import Derived.Test.YtnhaekifcieeoaaGreatDoorPk17
import Derived.Test.YtnhaekifcieeoaaGreatDoorPk18
import Derived.Test.YtnhaekifcieeoaaGreatDoorPk10
import Derived.Test.YtnhaekifcieeoaaGreatDoorPk09
import Derived.Test.YtnhaekifcieeoaaGreatDoorPk04
import Derived.Test.YtnhaekifcieeoaaGreatDoorPk15
import Derived.Test.YtnhaekifcieeoaaGreatDoorPk13
namespace Go.Proofs.YtnhaekifcieeoaaGreatDoor
open Go Go.RowKit
def RcB (F : Nat → Prop) (u : World) (V : RcdV) (R : Rcd) : Prop := ∀ v, Only F u v → RcdR v V R
theorem RcB.step {F F' : Nat → Prop} {u u' : World} {V : RcdV} {R : Rcd} (h : RcB F u V R) (hx : Only F u u') (hf : ∀ b, F' b → F b ∨ u.heap.size ≤ b) : RcB F' u' V R := fun v hv => h v (hx.trans hv fun b hb e => by
  rcases hf b e with h1 | h1
  · exact h1
  · omega)
def RbT {α : Type} (T : Flat α) (F : Nat → Prop) (u : World) (A : Option Addr) (xs : List α) : Prop := ∀ v, Only F u v → SlR T v A xs.length xs
section
variable {α : Type} {T : Flat α} {F F' : Nat → Prop} {u u' : World} {A : Option Addr} {xs : List α}
theorem RbT.step (h : RbT T F u A xs) (hx : Only F u u') (hf : ∀ b, F' b → F b ∨ u.heap.size ≤ b) : RbT T F' u' A xs := fun v hv => h v (hx.trans hv fun b hb e => by
  rcases hf b e with h1 | h1
  · exact h1
  · omega)
theorem RbT.ext (h : RbT T F u A xs) (hx : Ext u u') : RbT T F u' A xs := h.step (Only.any hx) fun _ e => .inl e
theorem RbT.row (h : RbT T F u A xs) : SlR T u A xs.length xs := h u (Only.refl _ _)
theorem RbT.fresh (hp : 0 < T.size) {t : TypeId} {c : Nat} (h : Fresh T t u u' A c xs) (hF : ∀ b, F b → b < u.heap.size) : RbT T F u' A xs := fun v hv => SlR.of_own hp (own_keep h.own hv fun g hg e => by
  have := h.new g hg
  have := hF g e
  omega)
end
theorem kt_info : (Tryz.prog.info? ktT).map (fun i => (i.zero, i.size, i.bytes)) = some (some (.agg #[.string ⟨#[]⟩, .slice none 0 0, .slice none 0 0, .slice none 0 0]), 4, 88) := by kernel_rfl
theorem kt_ty : Ety Tryz.prog 59 ktT 4 := Ety.mk' Tryz.underlying59 kt_info rfl (by omega) (by omega)
def RUnitRes (w : World) (R : (List File × List (Str × Rcd)) × Int) (e : Ending) (w' : World) : Prop :=
  Ext w w' ∧ ∃ (A : Option Addr) (c : Nat) (B : Option Addr) (d : Nat) (ks : List (RcdV × Str × Rcd)), e = .returned (.tuple #[.slice A R.1.1.length c, .slice B ks.length d, .int .i64 R.2]) ∧ SlR fileF w' A R.1.1.length R.1.1 ∧
    SlR ktF w' B ks.length ks ∧ ks.map (·.2) = R.1.2 ∧ ∀ x ∈ ks, RcdR w' x.1 x.2.2 ∧ x.2.2.Lim
set_option maxRecDepth 100000 in
set_option maxHeartbeats 1000000 in
theorem RUnit_c {w : World} {A : Option Addr} {c : Nat} {os : List (RulA × Grp)} {gs : List Grp} (hG : GrpsR w A os gs) (hb : ∀ g ∈ gs, GBu g ∧ 1 ≤ g.targets.length ∧ g.cmds.length ≤ 3)
    {uA : Option Addr} {uc : Nat} {u : List Nat} (hu : SlR inF w uA u.length u) (hun : u.length ≤ 10) (hul : ∀ k ∈ u, k < gs.length) {lA : Option Addr} {lc : Nat} {l : List File} (hl : SlR fileF w lA l.length l) (hf : FBu l) (hln : l.length ≤ 500) :
    Calls Tryz.prog 25 #[.slice A gs.length c, .slice uA u.length uc, .slice lA l.length lc] w (RUnitRes w (unitM gs u l [] [])) := by
  have HG := Lib.hid hG
  have HB := Lib.hid hb
  have HU := Lib.hid hu
  have HUl := Lib.hid hul
  have HL := Lib.hid hl
  have HF := Lib.hid hf
  clear hG hb hu hul hl hf
  go_enter Tryz.func25, Tryz.ntmps25
  go_wp2_with fail
  go_loopw [11, 9, 2, 10] (fun iv ov lv kv wr => ∃ i : Nat, i ≤ u.length ∧ iv = .int .i64 i ∧ ∃ (oA : Option Addr) (oc : Nat) (O : List File) (LA : Option Addr) (Lc : Nat) (L : List File) (kA : Option Addr) (kc : Nat) (ks : List (RcdV × Str × Rcd)),
    ov = .slice oA O.length oc ∧ lv = .slice LA L.length Lc ∧ kv = .slice kA ks.length kc ∧ RbT fileF (fun q => (Value.slice kA ks.length kc).ownBlock = some q) wr oA O ∧ RbT fileF (fun q => (Value.slice kA ks.length kc).ownBlock = some q) wr LA L ∧ Rise fk O ∧ O.length ≤ 3 * i ∧ FBu L ∧ L.length ≤ l.length + 3 * i ∧ Fresh ktF ktT w wr kA kc ks ∧ ks.length ≤ i ∧
    (∀ x ∈ ks, RcB (fun q => (Value.slice kA ks.length kc).ownBlock = some q) wr x.1 x.2.2 ∧ x.2.2.Lim) ∧ unitM gs (u.drop i) L O (ks.map (·.2)) = unitM gs u l [] [] ∧ Ext w wr) (fun iv _ _ _ _ => u.length - (intOf iv).toNat)
  case atStart => exact ⟨0, Nat.zero_le _, rfl, none, 0, [], lA, lc, l, none, 0, [], rfl, rfl, rfl, (fun v hv => SlR.none_), (fun v hv => HL.out.keep_far hv fun b o e hp h => by simp [Value.ownBlock] at h), List.Pairwise.nil, Nat.le_refl _, HF.out, by omega, Fresh.nil _ _ _ _ (Only.refl _ _), Nat.le_refl _, (fun x hx => by cases hx), rfl, Only.refl _ _⟩
  case round =>
    clear HL HF
    obtain ⟨i, hi, rfl, oA, oc, O, LA, Lc, L, kA, kc, ks, rfl, rfl, rfl, hO, hL, hRO, hOl, hFL, hLl, hK, hkl, hKr, hEq, hx⟩ := hrel
    have HO := Lib.hid hO
    have HL := Lib.hid hL
    have HRO := Lib.hid hRO
    have HFL := Lib.hid hFL
    have HK := Lib.hid hK
    have HKr := Lib.hid hKr
    have HEq := Lib.hid hEq
    have XR := Lib.hid hx
    clear hO hL hRO hFL hK hKr hEq hx
    by_cases hlt : i < u.length
    · obtain ⟨bu, ou, k, rfl, huk, cu⟩ := ins_get HU.out hlt
      have hkg : k < gs.length := HUl.out k (List.mem_of_getElem? huk)
      obtain ⟨bg, o, ⟨⟨tA, tc, nA, nc, cA, cc⟩, G⟩, rfl, hox, c0, c1, c2, c3⟩ := grps_get HG.out.row hkg
      have hgi : gs[k]? = some G := by rw [← HG.out.om, List.getElem?_map, hox]; rfl
      obtain ⟨hGb, hG1, hG3⟩ := HB.out G (List.mem_of_getElem? hgi)
      have HGb := Lib.hid hGb
      have HGr : Hid (SlR strF w tA G.targets.length G.targets ∧ SlR strF w nA G.needs.length G.needs ∧ SlR strF w cA G.cmds.length G.cmds) := HG.out.rr _ (List.mem_of_getElem? hox)
      have HSt := Lib.hid (unitM_step (l := L) (out := O) (K := ks.map (·.2)) huk hgi)
      have e0 : wr.cell? ⟨bu, ou + i, none⟩ = some (.int .i64 (k : Int)) := cu ⟨wr, XR.out⟩
      have q0 : wr.cell? ⟨bg, o + k * 4, none⟩ = some (.slice tA G.targets.length tc) := c0 ⟨wr, XR.out⟩
      have q1 : wr.cell? ⟨bg, o + k * 4 + 1, none⟩ = some (.slice nA G.needs.length nc) := c1 ⟨wr, XR.out⟩
      have q2 : wr.cell? ⟨bg, o + k * 4 + 2, none⟩ = some (.slice cA G.cmds.length cc) := c2 ⟨wr, XR.out⟩
      have q3 : wr.cell? ⟨bg, o + k * 4 + 3, none⟩ = some (.bool G.phony) := c3 ⟨wr, XR.out⟩
      clear cu c0 c1 c2 c3 hox hgi huk hGb
      go_upto_region 7 with fail
      obtain ⟨w2, hw2⟩ : ∃ u, u = wr.alloc (.cells #[.slice tA G.targets.length tc, .slice nA G.needs.length nc, .slice cA G.cmds.length cc, .bool G.phony] grpT) := ⟨_, rfl⟩
      obtain ⟨b7, hb7⟩ : ∃ g, g = wr.heap.size := ⟨_, rfl⟩
      rw [← hw2, ← hb7]
      have x2 : Ext wr w2 := by rw [hw2]; exact (Only.refl No _).alloc _
      have B7 : Hid (Cs w2 b7 grpT #[.slice tA G.targets.length tc, .slice nA G.needs.length nc, .slice cA G.cmds.length cc, .bool G.phony]) := by rw [hw2, hb7]; exact Cs.new _ _ _
      have X2 := Lib.hid (XR.out.then_ext x2)
      have XW2 := Lib.hid x2
      have HO2 := Lib.hid (HO.out.ext x2)
      have HL2 := Lib.hid (HL.out.ext x2)
      have y0 : w2.cell? ⟨b7, 0, none⟩ = some (.slice tA G.targets.length tc) := B7.out.cell 0
      have y1 : w2.cell? ⟨b7, 1, none⟩ = some (.slice nA G.needs.length nc) := B7.out.cell 1
      have y2 : w2.cell? ⟨b7, 2, none⟩ = some (.slice cA G.cmds.length cc) := B7.out.cell 2
      have y3 : w2.cell? ⟨b7, 3, none⟩ = some (.bool G.phony) := B7.out.cell 3
      have HGr2 : Hid (GrpR w2 ⟨tA, tc, nA, nc, cA, cc⟩ G) := ⟨HGr.out.1.ext X2.out, HGr.out.2.1.ext X2.out, HGr.out.2.2.ext X2.out⟩
      have HAll := Lib.hid (RAll_f (c := Lc) HL2.out.row (by have := HFL.out.n; omega) HFL.out.r (fun f hf => (HFL.out.x f hf).2) HGr2.out HGb.out.lim)
      obtain ⟨ph, hph⟩ : ∃ b, b = G.phony := ⟨_, rfl⟩
      rw [← hph] at HSt y3 B7
      have HAll2 : Hid (Calls Tryz.prog 49 #[.slice LA L.length Lc, .agg #[.slice tA G.targets.length tc, .slice nA G.needs.length nc, .slice cA G.cmds.length cc, .bool ph]] w2 fun e w' => ∃ A' c', e = .returned (.tuple #[.slice A' (allF L G).1.length c', .int .i64 (allF L G).2]) ∧ SlR fileF w' A' (allF L G).1.length (allF L G).1 ∧ Ext w2 w' ∧ ∀ b o, A' = some ⟨b, o, none⟩ → 0 < (allF L G).1.length → w2.heap.size ≤ b) := by rw [hph]; exact HAll.out
      have HPh := Lib.hid hph
      clear hw2 hb7 x2 q0 q1 q2 q3 e0 HO HL hph HAll
      cases ph with
      | true =>
        have HEq2 : Hid (unitM gs (u.drop (i + 1)) L O (ks.map (·.2)) = unitM gs u l [] []) := by rw [Hid, ← HEq.out, HSt.out, if_pos rfl]
        go_wp2_with fail
        go_roundw
        case rel => exact ⟨i + 1, by omega, by go_num, oA, oc, O, LA, Lc, L, kA, kc, ks, rfl, rfl, rfl, HO2.out, HL2.out, HRO.out, by omega, HFL.out, by omega, HK.out.on XW2.out, by omega, fun x hx => ⟨(HKr.out x hx).1.step (Only.any XW2.out) fun _ e => .inl e, (HKr.out x hx).2⟩, HEq2.out, X2.out⟩
        case measure => simp [intOf]; omega
      | false =>
        have HAl := Lib.hid (allF_fit L G)
        have HNm := Lib.hid (allF_names (xs := L) HGb.out.lt)
        have HOn : Hid (∀ a f, allF L G = (a, f) → oneF L G = if f ≠ 0 then (([], rcd0), f) else if 300 < (recT (recOf G L a)).length then (([], rcd0), 10) else ((a, recOf G L a), 0)) := fun a f e => by unfold oneF; rw [e]
        have hnn : 0 ≤ (allF L G).2 := allF_nonneg L G
        obtain ⟨⟨own, f⟩, hof⟩ : ∃ R, R = allF L G := ⟨_, rfl⟩
        rw [← hof] at HAl HNm HAll2 hnn
        have HOn2 := Lib.hid (HOn.out own f hof.symm)
        have hnn : 0 ≤ f := hnn
        have hal : own.length ≤ 3 := Nat.le_trans HAl.out.2.1 hG3
        have HSt1 : Hid (unitM gs (u.drop i) L O (ks.map (·.2)) = if (oneF L G).2 ≠ 0 then (([], []), (oneF L G).2) else unitM gs (u.drop (i + 1)) (putAll (oneF L G).1.1 L) (putAll (oneF L G).1.1 O) (ks.map (·.2) ++ [(G.targets.headD [], (oneF L G).1.2)])) := by rw [Hid, HSt.out, if_neg (by decide)]
        clear hof HSt HOn
        go_wp2_with fail
        refine HAll2.out.mono ?_
        rintro e u3 ⟨B, d, he, hw, hx, hnw⟩
        have he : e = .returned (.tuple #[.slice B own.length d, .int .i64 f]) := he
        subst he
        have X3 := Lib.hid (X2.out.then_ext hx)
        have XW3 := Lib.hid (XW2.out.then_ext hx)
        have HW := Lib.hid (show SlR fileF u3 B own.length own from hw)
        have HNw : Hid (∀ b o, B = some ⟨b, o, none⟩ → 0 < own.length → w2.heap.size ≤ b) := hnw
        have B73 := Lib.hid (B7.out.keep hx id)
        have HO3 := Lib.hid (HO2.out.ext hx)
        have HL3 := Lib.hid (HL2.out.ext hx)
        have HGr3 := Lib.hid (HGr2.out.ext hx)
        clear hw hx hnw HAll2 y0 y1 y2 y3 HO2 HL2 HGr2 B7
        by_cases hf : f = 0
        case neg =>
          have g0 : decide ((0 : Int) < f) = true := by rw [decide_eq_true_iff]; omega
          have HV : Hid (unitM gs u l [] [] = (([], []), f)) := by
            have h1 : oneF L G = (([], rcd0), f) := by rw [HOn2.out, if_pos hf]
            rw [Hid, ← HEq.out, HSt1.out, h1, if_pos hf]
          go_wp2_with fail
          go_ret3
          rw [HV.out]
          exact ⟨X3.out, none, 0, none, 0, [], rfl, SlR.none_, SlR.none_, rfl, fun x hx => by cases hx⟩
        subst hf
        obtain ⟨R, hR⟩ : ∃ R, R = recOf G L own := ⟨_, rfl⟩
        have HRd : Hid (Calls Tryz.prog 50 #[.agg #[.slice tA G.targets.length tc, .slice nA G.needs.length nc, .slice cA G.cmds.length cc, .bool false], .slice LA L.length Lc, .slice B own.length d] u3 fun e w' => ∃ v, e = .returned (rcdV v (recOf G L own)) ∧ RcdR w' v (recOf G L own) ∧ Ext u3 w' ∧ v.cA = cA ∧ v.oA = B ∧ ∀ b o, v.nA = some ⟨b, o, none⟩ → u3.heap.size ≤ b) := by
          rw [HPh.out]
          exact RecordOf_f (gv := ⟨tA, tc, nA, nc, cA, cc⟩) (g := G) HGr3.out HL3.out.row HW.out (by have := HGb.out.c; omega) (by have := HGb.out.n; omega) HFL.out.n (by omega)
        have hlim : R.Lim := by rw [hR]; exact recOf_lim HFL.out.x HNm.out HGb.out.c HGb.out.n (by omega) (fun x hx => by have := HGb.out.lc x hx; omega) HGb.out.ln
        have HLim := Lib.hid hlim
        have HRc : Hid (R.cmds = G.cmds ∧ R.out = own) := by rw [hR]; exact ⟨rfl, rfl⟩
        rw [← hR] at HRd HOn2
        have y0 : u3.cell? ⟨b7, 0, none⟩ = some (.slice tA G.targets.length tc) := B73.out.cell 0
        have y1 : u3.cell? ⟨b7, 1, none⟩ = some (.slice nA G.needs.length nc) := B73.out.cell 1
        have y2 : u3.cell? ⟨b7, 2, none⟩ = some (.slice cA G.cmds.length cc) := B73.out.cell 2
        have y3 : u3.cell? ⟨b7, 3, none⟩ = some (.bool false) := B73.out.cell 3
        clear hR hlim
        go_wp2_with fail
        refine HRd.out.mono ?_
        rintro e u4 ⟨⟨p1, e1, p2, e2, p3, e3⟩, he, hr, hx, hv1, hv2, hv3⟩
        have he : e = .returned (.agg #[.slice p1 R.cmds.length e1, .slice p2 R.needs.length e2, .slice p3 R.out.length e3]) := he
        subst he
        obtain rfl : p1 = cA := hv1
        obtain rfl : p3 = B := hv2
        have hv3 : ∀ b o, p2 = some ⟨b, o, none⟩ → u3.heap.size ≤ b := hv3
        obtain ⟨FF, hFF⟩ : ∃ FF : Nat → Prop, FF = fun q => (Value.slice kA ks.length kc).ownBlock = some q := ⟨_, rfl⟩
        have HFq := Lib.hid hFF
        have HFl : Hid (∀ q, FF q → w.heap.size ≤ q ∧ q < wr.heap.size) := fun q hq => by
          rw [hFF] at hq
          obtain ⟨_, hc⟩ := own_cs HK.out.own hq
          exact ⟨HK.out.new q hq, hc.lt⟩
        have HRB : Hid (RcB FF u4 ⟨p1, e1, p2, e2, p3, e3⟩ R) := fun v hv => by
          have hwv : Ext w v := (X3.out.then_ext hx).trans hv fun q hq e => by have := (HFl.out q e).1; omega
          refine ⟨?_, hr.n.keep_far hv fun q o e _ h => ?_, hr.o.keep_far hv fun q o e hp h => ?_⟩
          · have := HGr.out.2.2.ext hwv
            show SlR strF v p1 R.cmds.length R.cmds
            rw [HRc.out.1]
            exact this
          · have h1 := hv3 q o e
            have h2 := (HFl.out q h).2
            have h3 := XW3.out.size
            omega
          · have hp : 0 < R.out.length := hp
            rw [HRc.out.2] at hp
            have h1 := HNw.out q o e hp
            have h2 := (HFl.out q h).2
            have h3 := XW2.out.size
            omega
        have X4 := Lib.hid (X3.out.then_ext hx)
        have XW4 := Lib.hid (XW3.out.then_ext hx)
        have HRr := Lib.hid (show RcdR u4 ⟨p1, e1, p2, e2, p3, e3⟩ R from hr)
        have B74 := Lib.hid (B73.out.keep hx id)
        have HW4 := Lib.hid (HW.out.ext hx)
        have HO4 := Lib.hid (HO3.out.ext hx)
        have HL4 := Lib.hid (HL3.out.ext hx)
        clear hr hx hv3 HRd y0 y1 y2 y3 HW HO3 HL3 HGr3 B73 X3 X2 hFF
        go_upto_region 12 with fail
        obtain ⟨w5, hw5⟩ : ∃ u, u = u4.alloc (.cells #[.slice p1 R.cmds.length e1, .slice p2 R.needs.length e2, .slice p3 R.out.length e3] rcT) := ⟨_, rfl⟩
        obtain ⟨b15, hb15⟩ : ∃ b, b = u4.heap.size := ⟨_, rfl⟩
        rw [← hw5, ← hb15]
        have x5 : Ext u4 w5 := by rw [hw5]; exact (Only.refl No u4).alloc _
        have C15 : Hid (Cs w5 b15 rcT #[.slice p1 R.cmds.length e1, .slice p2 R.needs.length e2, .slice p3 R.out.length e3]) := by rw [hw5, hb15]; exact Cs.new _ _ _
        have HTx : Hid (Calls Tryz.prog 51 #[.agg #[.slice p1 R.cmds.length e1, .slice p2 R.needs.length e2, .slice p3 R.out.length e3]] w5 fun e w' => e = .returned (S (recT R)) ∧ Ext w5 w') := RecordText_c (v := ⟨p1, e1, p2, e2, p3, e3⟩) (r := R) (HRr.out.ext x5) HLim.out
        have j0 : w5.cell? ⟨b15, 0, none⟩ = some (.slice p1 R.cmds.length e1) := C15.out.cell 0
        have j1 : w5.cell? ⟨b15, 1, none⟩ = some (.slice p2 R.needs.length e2) := C15.out.cell 1
        have j2 : w5.cell? ⟨b15, 2, none⟩ = some (.slice p3 R.out.length e3) := C15.out.cell 2
        have XZ5 := Lib.hid x5
        clear hw5 hb15 x5 HRr
        go_wp2_with fail
        refine HTx.out.mono ?_
        rintro e u6 ⟨rfl, hx⟩
        have x6 := XZ5.out.then_ext hx
        have X6 := Lib.hid (X4.out.then_ext x6)
        have XW6 := Lib.hid (XW4.out.then_ext x6)
        have C156 := Lib.hid (C15.out.keep hx id)
        have B76 := Lib.hid (B74.out.keep x6 id)
        have HW6 := Lib.hid (HW4.out.ext x6)
        have HO6 := Lib.hid (HO4.out.ext x6)
        have HL6 := Lib.hid (HL4.out.ext x6)
        have HRB6 := Lib.hid (HRB.out.step (Only.any x6) fun b e => .inl e)
        clear hx x6 HTx j0 j1 j2 HW4 HO4 HL4 B74 C15 HRB X4 XZ5
        obtain ⟨T, hT⟩ : ∃ T, T = recT R := ⟨_, rfl⟩
        rw [← hT] at HOn2 ⊢
        clear hT
        rcases Nat.lt_or_ge 300 T.length with h3 | h3
        · have g3 : decide ((300 : Int) < (T.length : Int)) = true := by rw [decide_eq_true_iff]; omega
          have HV : Hid (unitM gs u l [] [] = (([], []), 10)) := by
            have h1 : oneF L G = (([], rcd0), 10) := by rw [HOn2.out, if_neg (fun h => h rfl), if_pos h3]
            rw [Hid, ← HEq.out, HSt1.out, h1, if_pos (by decide)]
          go_wp2_with fail
          go_ret3
          rw [HV.out]
          exact ⟨X6.out, none, 0, none, 0, [], rfl, SlR.none_, SlR.none_, rfl, fun x hx => by cases hx⟩
        have g3 : decide ((300 : Int) < (T.length : Int)) = false := by rw [decide_eq_false_iff_not]; omega
        have HSt2 : Hid (unitM gs (u.drop (i + 1)) (putAll own L) (putAll own O) (ks.map (·.2) ++ [(G.targets.headD [], R)]) = unitM gs u l [] []) := by
          have h1 : oneF L G = ((own, R), 0) := by rw [HOn2.out, if_neg (fun h => h rfl), if_neg (by omega)]
          rw [Hid, ← HEq.out, HSt1.out, h1, if_neg (fun h => h rfl)]
        clear HSt1 HEq HOn2
        go_wp2_with fail
        go_loopw [16, 2, 9] (fun jv lv ov wr => ∃ j : Nat, j ≤ own.length ∧ jv = .int .i64 j ∧ ∃ (oA : Option Addr) (oc : Nat) (LA : Option Addr) (Lc : Nat), ov = .slice oA (putAll (own.take j) O).length oc ∧ lv = .slice LA (putAll (own.take j) L).length Lc ∧
          RbT fileF FF wr oA (putAll (own.take j) O) ∧ RbT fileF FF wr LA (putAll (own.take j) L) ∧ Ext u6 wr) (fun jv _ _ _ => own.length - (intOf jv).toNat)
        case atStart => exact ⟨0, Nat.zero_le _, rfl, oA, oc, LA, Lc, rfl, rfl, by rw [HFq.out]; exact HO6.out, by rw [HFq.out]; exact HL6.out, Only.refl _ _⟩
        case round =>
          clear HO6 HL6
          obtain ⟨j, hj, rfl, oA, oc, LA, Lc, rfl, rfl, hO, hL, hx⟩ := hrel
          have HO5 := Lib.hid hO
          have HL5 := Lib.hid hL
          have XJ := Lib.hid hx
          clear hO hL hx
          have hPl := putAll_len (own.take j) L
          have hPo := putAll_len (own.take j) O
          have hTk : (own.take j).length ≤ j := by rw [List.length_take]; omega
          have HPr := Lib.hid (putAll_rise (own.take j) HFL.out.r)
          have HPo := Lib.hid (putAll_rise (own.take j) HRO.out)
          by_cases hlj : j < own.length
          · obtain ⟨bw, ow, ⟨fn, ft⟩, rfl, hfj, d0, d1⟩ := files_get HW6.out hlj
            have HT1 := Lib.hid (putAll_take hfj L)
            have HT2 := Lib.hid (putAll_take hfj O)
            have g0 : wr.cell? ⟨bw, ow + j * 2, none⟩ = some (S fn) := d0 ⟨wr, XJ.out⟩
            have g1 : wr.cell? ⟨bw, ow + j * 2 + 1, none⟩ = some (S ft) := d1 ⟨wr, XJ.out⟩
            have D0 := Lib.hid d0
            have D1 := Lib.hid d1
            clear d0 d1 hfj
            obtain ⟨Lj, hLj⟩ : ∃ x, x = putAll (own.take j) L := ⟨_, rfl⟩
            obtain ⟨Oj, hOj⟩ : ∃ x, x = putAll (own.take j) O := ⟨_, rfl⟩
            rw [← hLj] at HL5 hPl HPr HT1 ⊢
            rw [← hOj] at HO5 hPo HPo HT2 ⊢
            clear hLj hOj
            have HP1 := Lib.hid (RPut_c (c := Lc) HL5.out.row (by omega) (fn, ft))
            obtain ⟨Lk, hLk⟩ : ∃ x, x = putL fk (fn, ft) Lj := ⟨_, rfl⟩
            obtain ⟨Ok, hOk⟩ : ∃ x, x = putL fk (fn, ft) Oj := ⟨_, rfl⟩
            rw [← hLk] at HP1 HT1
            rw [← hOk] at HT2
            have HOk := Lib.hid hOk
            clear hLk hOk HL5
            go_wp2_with fail
            refine HP1.out.mono ?_
            rintro e u8 ⟨A8, c8, rfl, hF8⟩
            have X8 := Lib.hid (XJ.out.then_ext hF8.ext)
            have R8 : Hid (RbT fileF FF u8 A8 Lk) := RbT.fresh (by decide) hF8 fun q hq => Nat.lt_of_lt_of_le (HFl.out q hq).2 (XW6.out.then_ext XJ.out).size
            have HP2 := Lib.hid (RPut_c (c := oc) (HO5.out.ext hF8.ext).row (by omega) (fn, ft))
            clear hF8 HP1 g0 g1
            rw [← HOk.out] at HP2
            have g0 : u8.cell? ⟨bw, ow + j * 2, none⟩ = some (S fn) := D0.out ⟨u8, X8.out⟩
            have g1 : u8.cell? ⟨bw, ow + j * 2 + 1, none⟩ = some (S ft) := D1.out ⟨u8, X8.out⟩
            go_wp2_with fail
            refine HP2.out.mono ?_
            rintro e u9 ⟨A9, c9, rfl, hF9⟩
            have X9 := Lib.hid (X8.out.then_ext hF9.ext)
            have R9 : Hid (RbT fileF FF u9 A9 Ok) := RbT.fresh (by decide) hF9 fun q hq => Nat.lt_of_lt_of_le (HFl.out q hq).2 (XW6.out.then_ext X8.out).size
            have R89 := Lib.hid (R8.out.ext hF9.ext)
            clear hF9 HP2 g0 g1
            go_wp2_with fail
            go_roundw
            case rel => exact ⟨j + 1, by omega, by go_num, A9, c9, A8, c8, by rw [HT2.out], by rw [HT1.out], by rw [HT2.out]; exact R9.out, by rw [HT1.out]; exact R89.out, X9.out⟩
            case measure => simp [intOf]; omega
          · obtain rfl : j = own.length := by omega
            rw [List.take_of_length_le (Nat.le_refl _)] at HO5 HL5 hPl hPo HPr HPo ⊢
            obtain ⟨bt, ot, t, hAt, hti, ct⟩ := strs_get HGr.out.1 (k := 0) (by omega)
            have htt : G.targets.headD [] = t := by
              cases htl : G.targets with
              | nil => rw [htl] at hti; cases hti
              | cons p r => rw [htl] at hti; exact Option.some.inj hti
            subst hAt
            have HSt4 : Hid (unitM gs (u.drop (i + 1)) (putAll own L) (putAll own O) (ks.map (·.2) ++ [(t, R)]) = unitM gs u l [] []) := by rw [Hid, ← htt]; exact HSt2.out
            have HXJ := Lib.hid (XW6.out.then_ext XJ.out)
            have HKJ := Lib.hid (HK.out.on HXJ.out)
            have HXF : Hid (∀ v, Only FF wr v → Ext w v) := fun v hv => (X6.out.then_ext XJ.out).trans hv fun q hq e => by have := (HFl.out q e).1; omega
            have B7J := B76.out.keep XJ.out id
            have C15J := C156.out.keep XJ.out id
            have n7 : ¬ FF b7 := fun e => by rw [HFq.out] at e; exact own_ne_cs HKJ.out.own B7J (by decide) _ e rfl
            have n15 : ¬ FF b15 := fun e => by rw [HFq.out] at e; exact own_ne_cs HKJ.out.own C15J (by decide) _ e rfl
            have f0 : ∀ ξ : X wr FF, ξ.v.cell? ⟨b7, 0, none⟩ = some (.slice (some ⟨bt, ot, none⟩) G.targets.length tc) := B7J.x n7 0
            have f1 : ∀ ξ : X wr FF, ξ.v.cell? ⟨bt, ot, none⟩ = some (S t) := fun ξ => ct ⟨ξ.v, HXF.out _ ξ.h⟩
            have f2 : ∀ ξ : X wr FF, ξ.v.cell? ⟨b15, 0, none⟩ = some (.slice p1 R.cmds.length e1) := C15J.x n15 0
            have f3 : ∀ ξ : X wr FF, ξ.v.cell? ⟨b15, 1, none⟩ = some (.slice p2 R.needs.length e2) := C15J.x n15 1
            have f4 : ∀ ξ : X wr FF, ξ.v.cell? ⟨b15, 2, none⟩ = some (.slice p3 R.out.length e3) := C15J.x n15 2
            have hlt0 : 0 < G.targets.length := by omega
            have HFL2 := Lib.hid (HFL.out.put HNm.out (by omega))
            have HQl : Hid ((putAll own L).length ≤ L.length + own.length ∧ (putAll own O).length ≤ O.length + own.length) := ⟨putAll_len _ _, putAll_len _ _⟩
            clear hti ct htt n7 n15 B7J C15J
            go_upto_region 19 with fail
            refine Mix.wp_draw [7, 8] 100 (Cl wr FF) (by kernel_rfl) (by kernel_rfl) (Cl.of (Only.refl _ _).drew) ?_
            (repeat' (refine Mix.lex_quiet0 rfl rfl rfl ?_; intro K hK; go_big_quiet_op; go_big_quiet_on))
            ((first | refine Mix.lex_goes0 rfl rfl ?_ | refine Mix.lex_goesG rfl rfl rfl (by with_reducible rfl) rfl ?_); intro K hK; go_simp)
            obtain ⟨w8, hw8⟩ : ∃ v, v = (wr.alloc (.cells #[S t, .slice p1 R.cmds.length e1, .slice p2 R.needs.length e2, .slice p3 R.out.length e3] ktT)).drew := ⟨_, rfl⟩
            obtain ⟨b8, hb8⟩ : ∃ b, b = wr.heap.size := ⟨_, rfl⟩
            have C8 : Cs w8 b8 ktT #[S t, .slice p1 R.cmds.length e1, .slice p2 R.needs.length e2, .slice p3 R.out.length e3] := by rw [hw8, hb8]; exact (Cs.new _ _ _).drew
            have x8 : Ext wr w8 := by rw [hw8]; exact ((Only.refl No wr).alloc _).drew
            have F8 := Lib.hid (HKJ.out.on x8)
            have X8 := Lib.hid x8
            rw [← hw8, ← hb8]
            refine hK _ _ (fun _ => Cl.of (Only.any x8)) ?_
            clear hK K hw8 hb8 x8 f0 f1 f2 f3 f4
            simp only [Act.put, List.setIfInBounds_toArray, List.set_cons_succ, List.set_cons_zero]
            refine Mix.lex_goes0 rfl rfl ?_
            intro K hK
            refine goes_append (v := .slice kA ks.length kc) (n := ks.length) (xs := ks.flatMap ktF.enc) kt_ty rfl rfl rfl F8.out.own (rd_cs4 (cs := [S t, .slice p1 R.cmds.length e1, .slice p2 R.needs.length e2, .slice p3 R.out.length e3]) C8) (by simp [Value.oneCell']) (by omega) ?_
            intro A' c' w9 hown hgr hb5
            have F9 : Hid (Fresh ktF ktT w w9 A' c' (ks ++ [(((⟨p1, e1, p2, e2, p3, e3⟩ : RcdV), t, R) : RcdV × Str × Rcd)])) := F8.out.grow (m := 1) (ys := [(((⟨p1, e1, p2, e2, p3, e3⟩ : RcdV), t, R) : RcdV × Str × Rcd)]) rfl hown hgr hb5
            have O9 : Hid (Only FF wr w9) := (Only.any X8.out).grown hgr fun g hg => .inr (by rw [HFq.out]; exact hg)
            have HS9 : Hid (∀ q, (Value.slice A' (ks ++ [(((⟨p1, e1, p2, e2, p3, e3⟩ : RcdV), t, R) : RcdV × Str × Rcd)]).length c').ownBlock = some q → FF q ∨ wr.heap.size ≤ q) := fun q hq => by
              rw [List.length_append] at hq
              rcases hb5 with hb | hb
              · exact .inl (by rw [HFq.out]; exact hb.symm.trans hq)
              · have h3 : some w8.heap.size = some q := hb.symm.trans hq
                injection h3 with h3
                exact .inr (by rw [← h3]; exact X8.out.size)
            refine hK _ _ (fun _ => Cl.of O9.out) ?_
            clear hK K hown hgr hb5 C8
            simp only [Act.put, List.setIfInBounds_toArray, List.set_cons_succ, List.set_cons_zero]
            (repeat' (refine Mix.lex_quiet0 rfl rfl rfl ?_; intro K hK; go_big_quiet_op; go_big_quiet_on))
            refine Mix.lex_nil ?_
            have X9 := Lib.hid (HXF.out _ O9.out)
            have HO9 := Lib.hid (HO5.out.step O9.out HS9.out)
            have HL9 := Lib.hid (HL5.out.step O9.out HS9.out)
            go_wp2_with fail
            go_roundw
            case rel =>
              refine ⟨i + 1, by omega, by go_num, oA, oc, putAll own O, LA, Lc, putAll own L, A', c', ks ++ [(((⟨p1, e1, p2, e2, p3, e3⟩ : RcdV), t, R) : RcdV × Str × Rcd)], rfl, rfl, by simp, HO9.out, HL9.out, HPo.out, by have := HQl.out.2; omega, HFL2.out, by have := HQl.out.1; omega, F9.out, by simp; omega, fun x hx => ?_, by rw [List.map_append]; exact HSt4.out, X9.out⟩
              rcases List.mem_append.1 hx with hx | hx
              · obtain ⟨q1, q2⟩ := HKr.out x hx
                exact ⟨((q1.step (Only.any HXJ.out) fun q e => .inl (by rw [HFq.out] at e; exact e) : RcB FF wr x.1 x.2.2)).step O9.out HS9.out, q2⟩
              · obtain rfl := List.mem_singleton.1 hx
                exact ⟨(HRB6.out.step (Only.any XJ.out) fun q e => .inl e).step O9.out HS9.out, HLim.out⟩
            case measure => simp [intOf]; omega
    · obtain rfl : i = u.length := by omega
      have HV : Hid (unitM gs u l [] [] = ((O, ks.map (·.2)), 0)) := by rw [Hid, ← HEq.out, List.drop_of_length_le (Nat.le_refl _)]; rfl
      go_wp2_with fail
      go_ret3
      rw [HV.out]
      exact ⟨XR.out, oA, oc, kA, kc, ks, rfl, HO.out.row, HK.out.row (by decide), rfl, fun x hx => ⟨(HKr.out x hx).1 _ (Only.refl _ _), (HKr.out x hx).2⟩⟩
theorem word_len {s : Str} (h : wordB s = true) : s.length ≤ 8 := by
  unfold wordB nameB at h
  simp only [Bool.and_eq_true, decide_eq_true_eq] at h
  obtain ⟨⟨_, h⟩, _⟩ := h
  unfold onceF at h
  split at h
  · rename_i hc
    have := congrArg List.length (cut_parts 37 s hc)
    simp only [List.length_append, List.length_cons, List.length_nil] at this h
    omega
  · exact h
theorem okFrom_len {p : Bool} : ∀ {l seen : List Str}, okFrom p seen l = true → ∀ x ∈ l, x.length ≤ 8
  | [], _, _, x, hx => by cases hx
  | y :: r, seen, h, x, hx => by
    unfold okFrom at h
    simp only [Bool.and_eq_true] at h
    rcases List.mem_cons.1 hx with rfl | hx
    · exact word_len h.1.1.1
    · exact okFrom_len h.2 x hx
structure RLen (r : Rul) : Prop where
  t : ∀ x ∈ r.targets, x.length ≤ 8
  n : ∀ x ∈ r.needs, x.length ≤ 8
  c : ∀ x ∈ r.cmds, x.length ≤ 28
structure MLen (m : Mk) : Prop where
  r : ∀ x ∈ m.rules, RLen x
  p : ∀ x ∈ m.phony, x.length ≤ 8
theorem mk0_len : MLen mk0 := ⟨(fun x hx => by cases hx), (fun x hx => by cases hx)⟩
theorem headF_mlen {m : Mk} (h : MLen m) (s : Str) : MLen (headF m s).1 := by
  unfold headF
  split
  · exact h
  · split
    · exact h
    · split
      · exact h
      · split
        · rename_i h4
          unfold allOk at h4
          rw [Bool.and_eq_true] at h4
          have h5 := okFrom_len h4.1
          refine ⟨fun x hx => ?_, h.p⟩
          rcases List.mem_append.1 hx with hx | hx
          · exact h.r x hx
          · obtain rfl := List.mem_singleton.1 hx
            exact ⟨fun y hy => h5 y (List.mem_append_left _ hy), fun y hy => h5 y (List.mem_append_right _ hy), (fun y hy => by cases hy)⟩
        · exact h
theorem cmdF_mlen {m : Mk} (h : MLen m) (s : Str) : MLen (cmdF m s).1 := by
  unfold cmdF
  split
  · exact h
  · rename_i r hr
    split
    · exact h
    · split
      · exact h
      · rename_i h3
        have hm := h.r r (List.mem_of_getLast? hr)
        refine ⟨fun x hx => ?_, h.p⟩
        rcases List.mem_append.1 hx with hx | hx
        · exact h.r x (List.dropLast_subset _ hx)
        · obtain rfl := List.mem_singleton.1 hx
          refine ⟨hm.t, hm.n, fun y hy => ?_⟩
          rcases List.mem_append.1 hy with hy | hy
          · exact hm.c y hy
          · obtain rfl := List.mem_singleton.1 hy
            omega
theorem lineF_mlen {m : Mk} (h : MLen m) (s : Str) : MLen (lineF m s).1 := by
  cases s with
  | nil => exact h
  | cons x r =>
    rw [lineF_cons]
    split
    · exact h
    · split
      · exact cmdF_mlen h r
      · split
        · unfold phoF
          split
          · exact h
          · rename_i h1
            refine ⟨h.r, fun y hy => ?_⟩
            rcases List.mem_append.1 hy with hy | hy
            · exact h.p y hy
            · obtain rfl := List.mem_singleton.1 hy
              rw [not_or] at h1
              have h2 := h1.1
              rw [Bool.not_eq_false] at h2
              unfold nameB at h2
              simp only [Bool.and_eq_true, decide_eq_true_eq] at h2
              exact h2.1.2
        · split
          · unfold varF
            split
            · exact h
            · split
              · exact h
              · exact ⟨h.r, h.p⟩
          · exact headF_mlen h _
theorem foldF_mlen : ∀ (ls : List Str) (m : Mk), MLen m → MLen (foldF ls m).1
  | [], _, h => h
  | l :: ls, m, h => by
    unfold foldF
    split
    · exact foldF_mlen ls _ (lineF_mlen h l)
    · exact mk0_len
theorem parseF_mlen (s : Str) : MLen (parseF s).1 := by
  unfold parseF
  split
  · exact mk0_len
  · split
    · exact mk0_len
    · split
      · exact foldF_mlen _ _ mk0_len
      · exact mk0_len
theorem gbd {s : Str} {l : List File} (h : lightF l = true) : GBd (parseF s).1 l := by
  have hf := parseF_fit s
  have hm := parseF_mlen s
  obtain ⟨h1, _, h3⟩ := lightF_facts h
  refine ⟨Nat.le_trans hf.r (by decide), fun r hr => ?_, Nat.le_trans hf.p (by decide), by omega, h3⟩
  obtain ⟨p1, p2, p3, p4⟩ := hf.rt r hr
  have q := hm.r r hr
  exact ⟨p1, p2, p3, p4, fun x hx => by have := q.t x hx; omega, fun x hx => by have := q.n x hx; omega, fun x hx => by have := q.c x hx; omega⟩
theorem flat_len {α β : Type} {f : α → List β} {k : Nat} : ∀ {l : List α}, (∀ x ∈ l, (f x).length ≤ k) → (l.flatMap f).length ≤ k * l.length
  | [], _ => by simp
  | x :: xs, h => by
    have h1 := h x (by simp)
    have h2 := flat_len (l := xs) fun y hy => h y (List.mem_cons_of_mem _ hy)
    simp only [List.flatMap_cons, List.length_append, List.length_cons]
    rw [Nat.mul_add]
    omega
theorem cand_few {s : Str} {l : List File} (h : lightF l = true) (goal : Str) : (candF (parseF s).1 l goal).length < 100 := by
  have hf := parseF_fit s
  obtain ⟨h1, _, _⟩ := lightF_facts h
  have a1 := flat_len (f := fun r : Rul => r.targets) (k := 2) (l := (parseF s).1.rules) fun r hr => (hf.rt r hr).2.1
  have a2 := flat_len (f := fun r : Rul => ndsOf r []) (k := 3) (l := (parseF s).1.rules) fun r hr => by
    show (ndsOf r []).length ≤ 3
    unfold ndsOf
    rw [List.length_map]
    exact (hf.rt r hr).2.2.1
  have a3 := hf.r
  unfold candF
  simp only [List.length_append, List.length_cons, List.length_map]
  omega
theorem cand_len {s : Str} {l : List File} (h : lightF l = true) {goal : Str} (hg : goal.length ≤ 20) : ∀ x ∈ candF (parseF s).1 l goal, x.length ≤ 200 := by
  have hm := parseF_mlen s
  obtain ⟨_, h2, _⟩ := lightF_facts h
  intro x hx
  unfold candF at hx
  simp only [List.mem_append, List.mem_cons, List.mem_map, List.mem_flatMap] at hx
  rcases hx with (((rfl | ⟨y, hy, rfl⟩) | ⟨r, hr, hx⟩)) | ⟨r, hr, hx⟩
  · omega
  · have := (h2 y hy).1; omega
  · have := (hm.r r hr).t x hx; omega
  · unfold ndsOf at hx
    obtain ⟨y, hy, rfl⟩ := List.mem_map.1 hx
    have q1 := (hm.r r hr).n y hy
    have q2 := onceF_len y []
    simp only [List.length_nil] at q2
    omega
theorem needsF_allN {P : Grp → Prop} {N : Str → Prop} {rec : List Grp → Str → List Grp × Int} (h : ∀ o n, N n → (∀ g ∈ o, P g) → ∀ g ∈ (rec o n).1, P g) : ∀ (ns : List Str) (o : List Grp), (∀ n ∈ ns, N n) → (∀ g ∈ o, P g) → ∀ g ∈ (needsF rec o ns).1, P g
  | [], _, _, ho => ho
  | n :: ns, o, hn, ho => by
    unfold needsF
    split
    · exact h o n (hn n List.mem_cons_self) ho
    · exact needsF_allN h ns _ (fun k hk => hn k (List.mem_cons_of_mem _ hk)) (h o n (hn n List.mem_cons_self) ho)
theorem visitF_allN {m : Mk} {l : List File} {P : Grp → Prop} {N : Str → Prop} (hP : ∀ n g, N n → ruleF m l n = some g → P g ∧ ∀ k ∈ g.needs, N k) : ∀ (f : Nat) (way : List Str) (out : List Grp) (n : Str), N n → (∀ g ∈ out, P g) → ∀ g ∈ (visitF m l f way out n).1, P g
  | 0, _, _, _, _, ho => ho
  | f + 1, way, out, n, hn, ho => by
    have := fun w => needsF_allN (rec := visitF m l f w) (N := N) fun o n hn h => visitF_allN hP f w o n hn h
    unfold visitF
    split
    · exact ho
    · split
      · exact ho
      · split
        · split <;> exact ho
        · rename_i g hg
          have hg2 := hP n g hn hg
          split
          · exact this _ _ _ hg2.2 ho
          · split
            · exact this _ _ _ hg2.2 ho
            · intro x hx
              rcases List.mem_append.1 hx with hx | hx
              · exact this _ _ _ hg2.2 ho x hx
              · obtain rfl := List.mem_singleton.1 hx
                exact hg2.1
def GB4 (g : Grp) : Prop := 1 ≤ g.targets.length ∧ (∀ t ∈ g.targets, t.length ≤ 10000) ∧ ∀ t ∈ g.needs, t.length ≤ 10000
theorem GB4.head {g : Grp} (h : GB4 g) : 1 ≤ g.targets.length ∧ (g.targets.headD []).length ≤ 1000000 := by
  refine ⟨h.1, ?_⟩
  cases ht : g.targets with
  | nil => simp
  | cons a r =>
    have := h.2.1 a (by rw [ht]; exact List.mem_cons_self)
    show a.length ≤ _
    omega
theorem autoF_len2 {v : KeyV} {K : Nat} (hK : 2 ≤ K) (hv : ∀ c t, v c = some t → t.length ≤ K) : ∀ s : Str, 2 * (autoF v s).length ≤ s.length * K
  | [] => by simp [autoF]
  | [x] => by simp [autoF]; omega
  | x :: y :: r => by
    have h1 := autoF_len2 hK hv (y :: r)
    have h2 := autoF_len2 hK hv r
    rw [autoF_look]
    have e1 : (x :: y :: r).length * K = r.length * K + K + K := by simp only [List.length_cons, Nat.succ_mul]
    have e2 : (y :: r).length * K = r.length * K + K := by simp only [List.length_cons, Nat.succ_mul]
    rw [e2] at h1
    rw [e1]
    cases h : lookF v (x :: y :: r) with
    | none => simp only [List.length_cons]; omega
    | some t =>
      have : t.length ≤ K := by
        by_cases hx : x = 36
        · simp only [lookF, hx, if_true] at h
          exact hv _ _ h
        · simp [lookF, hx] at h
      simp only [List.length_append, List.drop_succ_cons, List.drop_zero]
      omega
theorem headD_len {K : Nat} {l : List Str} (h : ∀ x ∈ l, x.length ≤ K) : (l.headD []).length ≤ K := by
  cases l with
  | nil => simp
  | cons a r => exact h a List.mem_cons_self
theorem cand20 {s : Str} {l : List File} (h : lightF l = true) {goal : Str} (hg : goal.length ≤ 8) : ∀ x ∈ candF (parseF s).1 l goal, x.length ≤ 20 := by
  have hm := parseF_mlen s
  obtain ⟨_, h2, _⟩ := lightF_facts h
  intro x hx
  unfold candF at hx
  simp only [List.mem_append, List.mem_cons, List.mem_map, List.mem_flatMap] at hx
  rcases hx with (((rfl | ⟨y, hy, rfl⟩) | ⟨r, hr, hx⟩)) | ⟨r, hr, hx⟩
  · omega
  · exact (h2 y hy).1
  · have := (hm.r r hr).t x hx; omega
  · unfold ndsOf at hx
    obtain ⟨y, hy, rfl⟩ := List.mem_map.1 hx
    have q1 := (hm.r r hr).n y hy
    have q2 := onceF_len y []
    simp only [List.length_nil] at q2
    omega
def GBv (g : Grp) : Prop := GBu g ∧ 1 ≤ g.targets.length ∧ g.cmds.length ≤ 3
theorem ruleF_b5 {s : Str} {l : List File} (h : lightF l = true) {goal : Str} (hg : goal.length ≤ 8) (n : Str) (g : Grp) (hn : n.length ≤ 20) (hr : ruleF (parseF s).1 l n = some g) : GBv g ∧ ∀ k ∈ g.needs, k.length ≤ 20 := by
  have hb : GBd (parseF s).1 l := gbd h
  have hm := parseF_mlen s
  have h3 : ∀ k ∈ g.needs, k.length ≤ 20 := fun k hk => cand20 h hg k (ruleF_cand hr k hk)
  obtain ⟨b1, b2, b3⟩ := ruleF_b3 hb n g hr
  have ht1 := (ruleF_b hb hr).1
  have ht : ∀ t ∈ g.targets, t.length ≤ 20 := fun t ht => by
    rcases ruleF_some hr with ⟨r, hr', rfl⟩ | ⟨_, r, _, hs, rfl, _⟩
    · rw [groupF_tgt] at ht
      have := (hm.r r (explF_some hr').1).t t ht
      omega
    · have ht : t ∈ tgtOf r n _ := ht
      unfold tgtOf at ht
      rw [if_neg (stemL_ne hs)] at ht
      obtain rfl := List.mem_singleton.1 ht
      exact hn
  have hc : ∀ c ∈ g.cmds, c.length ≤ 1000 := fun c hc => by
    have key : ∀ (r : Rul) (stem : Str), r ∈ (parseF s).1.rules → stem.length ≤ 20 → g = groupF (parseF s).1 r n stem → c.length ≤ 1000 := fun r stem hr' hst e => by
      subst e
      have hc : c ∈ r.cmds.map (cmdOf (tgtOf r n stem) (ndsOf r stem) stem) := hc
      obtain ⟨c0, hc0, rfl⟩ := List.mem_map.1 hc
      have q1 := (hm.r r hr').c c0 hc0
      have q2 := headD_len ht
      have q3 := headD_len h3
      have q4 := joinSp_len h3
      have q5 : (groupF (parseF s).1 r n stem).needs.length ≤ 3 := b2
      have q6 : (joinSp (groupF (parseF s).1 r n stem).needs).length ≤ 63 := by
        refine Nat.le_trans q4 ?_
        omega
      have q7 := autoF_len2 (K := 63) (by decide) (keyV_len (t := (groupF (parseF s).1 r n stem).targets.headD []) (f := (groupF (parseF s).1 r n stem).needs.headD []) (n := joinSp (groupF (parseF s).1 r n stem).needs) (k := stem) (by omega) (by omega) q6 (by omega)) c0
      have q8 : c0.length * 63 ≤ 28 * 63 := Nat.mul_le_mul_right _ q1
      show (autoF _ c0).length ≤ 1000
      have q9 : 2 * (autoF (keyV ((tgtOf r n stem).headD []) ((ndsOf r stem).headD []) (joinSp (ndsOf r stem)) stem) c0).length ≤ c0.length * 63 := q7
      omega
    rcases ruleF_some hr with ⟨r, hr', rfl⟩ | ⟨_, r, hr', hs, rfl, _⟩
    · exact key r [] (explF_some hr').1 (Nat.zero_le _) rfl
    · exact key r _ hr' (Nat.le_trans (stemL_le _ _) hn) rfl
  exact ⟨⟨⟨by omega, by omega, by omega, hc, fun x hx => by have := h3 x hx; omega, fun x hx => by have := ht x hx; omega⟩, ht1, b3⟩, h3⟩
theorem groupsF_b5 {s : Str} {l : List File} (h : lightF l = true) (goal : Str) : ∀ g ∈ (groupsF (parseF s).1 l goal).1, GBv g := by
  unfold groupsF
  split
  · intro g hg; cases hg
  · rename_i hn
    have hg : goal.length ≤ 8 := by
      by_cases hb : nameB goal = true
      · unfold nameB at hb
        simp only [Bool.and_eq_true, decide_eq_true_eq] at hb
        exact hb.1.2
      · exact absurd (by simpa using hb) hn
    split
    · intro g hg; cases hg
    · exact visitF_allN (N := fun n => n.length ≤ 20) (fun n g hn hr => ruleF_b5 h hg n g hn hr) 100 [] [] goal (by show goal.length ≤ 20; omega) (fun g hg => by cases hg)
end Go.Proofs.YtnhaekifcieeoaaGreatDoor
