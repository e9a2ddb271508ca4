/- Put together: Rg3. -/
import Derived.Test.YtnhaekifcieeoaaGreatDoorPk13
import Derived.Test.YtnhaekifcieeoaaGreatDoorPk12
import Derived.Test.YtnhaekifcieeoaaGreatDoorPk03
namespace Go.Proofs.YtnhaekifcieeoaaGreatDoor
open Go Go.RowKit
set_option maxRecDepth 100000 in
set_option maxHeartbeats 8000000 in
theorem RFor_c {w : World} {v : MkV} {rs : List (RulA × Rul)} {m : Mk} {lA : Option Addr} {lc : Nat} {l : List File} (hml : Ml w) (h : MakeR w v rs m) (hfl : SlR fileF w lA l.length l) (hb : GBd m l) (name : Str) (hnl : name.length ≤ 200) :
    Calls Tryz.prog 61 #[mkV v m, .slice lA l.length lc, S name] w (RulRes w (ruleF m l name)) := by
  obtain ⟨vA, vc, rA, rc, pA, pc⟩ := v
  obtain ⟨w1, hw1⟩ : ∃ u, u = w.alloc (.cells #[.slice vA m.vars.length vc, .slice rA m.rules.length rc, .slice pA m.phony.length pc] makeT) := ⟨_, rfl⟩
  obtain ⟨w2, hw2⟩ : ∃ u, u = w1.alloc (.cells #[.slice none 0 0, .slice none 0 0, .slice none 0 0, .bool false] grpT) := ⟨_, rfl⟩
  go_enter Tryz.func61, Tryz.ntmps61
  go_upto_region 1 with fail
  rw [← hw1, ← hw2]
  obtain ⟨b3, hb3⟩ : ∃ b, b = w.heap.size := ⟨_, rfl⟩
  obtain ⟨b6, hb6⟩ : ∃ b, b = w.heap.size + 1 := ⟨_, rfl⟩
  rw [← hb6, ← hb3]
  have s1 : w1.heap.size = w.heap.size + 1 := by rw [hw1]; simp
  have x1 : Ext w w1 := by rw [hw1]; exact (Only.refl No w).alloc _
  have x2 : Ext w1 w2 := by rw [hw2]; exact (Only.refl No w1).alloc _
  have C3 : Cs w2 b3 makeT #[.slice vA m.vars.length vc, .slice rA m.rules.length rc, .slice pA m.phony.length pc] := (show Cs w1 b3 makeT _ by rw [hw1, hb3]; exact Cs.new _ _ _).keep x2 id
  have C6 : Cs w2 b6 grpT zerG := by rw [hw2, hb6, ← s1]; exact Cs.new _ _ _
  have X2 : Hid (Ext w w2) := x1.then_ext x2
  have HB : Hid (w.heap.size ≤ b3 ∧ w.heap.size ≤ b6 ∧ b3 ≠ b6) := by rw [hb3, hb6]; exact ⟨by omega, by omega, by omega⟩
  have HC := Lib.hid (And.intro C3 C6)
  have HM := Lib.hid (h.ext X2.out)
  have HM0 := Lib.hid h
  have HFl := Lib.hid (hfl.ext X2.out)
  have HL := Lib.hid (hml.ext X2.out)
  have HEx := Lib.hid (fun u (hu : Ext w2 u) t => RExpl_c (HM.out.ext hu) hb.r (fun r hr => by have := (hb.t r hr).2.1; omega) t)
  have HE := Lib.hid (HEx.out w2 (Only.refl _ _) name)
  have hln := hb.n
  clear hw1 hw2 hb3 hb6 s1 x1 x2 C3 C6 h hml hfl
  have HGB := Lib.hid hb
  clear hb
  have c0 : w2.cell? ⟨b3, 0, none⟩ = some (.slice vA m.vars.length vc) := HC.out.1.cell 0
  have c1 : w2.cell? ⟨b3, 1, none⟩ = some (.slice rA m.rules.length rc) := HC.out.1.cell 1
  have c2 : w2.cell? ⟨b3, 2, none⟩ = some (.slice pA m.phony.length pc) := HC.out.1.cell 2
  have hOf : ∀ u, Ext w2 u → ∀ x ∈ rs, ∀ stem : Str, stem.length ≤ 200 → Calls Tryz.prog 92 #[mkV ⟨vA, vc, rA, rc, pA, pc⟩ m, ruleV x, S name, S stem] u (OfRes u (groupF m x.2 name stem)) := fun u hu x hx stem hst => by
    have hm := HM.out.ext hu
    obtain ⟨q1, q2, q3⟩ := hm.rr x hx
    obtain ⟨p1, p2, p3, p4, p5, p6, p7⟩ := HGB.out.t x.2 (by rw [← hm.rm]; exact List.mem_map_of_mem hx)
    exact groupOf_c (HL.out.ext hu) hm q1 q2 q3 p1 p2 p3 p4 p5 p6 p7 name stem hnl hst HGB.out.p
  have HOf := Lib.hid hOf
  clear hOf
  rcases expl_idx m.rules name with ⟨hn, hi⟩ | ⟨k, r, hr, hs, hi⟩
  · have HR0 : Hid (patF m l name m.rules = ruleF m l name) := by rw [Hid, ruleF, hn]
    rw [hi] at HE
    clear hn hi
    go_wp2_with fail
    refine HE.out.mono ?_
    rintro e u3 ⟨rfl, hx⟩
    have X3 := Lib.hid hx
    have M3 := Lib.hid (HM.out.ext hx)
    have HC3 := Lib.hid (HC.out.1.keep hx id)
    clear hx HE c0 c1 c2
    go_wp2_with fail
    go_loopw [9] (fun i wr => ∃ k : Nat, k ≤ m.rules.length ∧ i = .int .i64 k ∧ patF m l name (m.rules.drop k) = ruleF m l name ∧ Ext u3 wr) (fun i _ => m.rules.length - (intOf i).toNat)
    case atStart => exact ⟨0, Nat.zero_le _, rfl, HR0.out, Only.refl _ _⟩
    case round =>
      clear HR0
      obtain ⟨k, hk, rfl, hP, hxr⟩ := hrel
      have HP := Lib.hid hP
      have X4 := Lib.hid hxr
      have c1 : wr.cell? ⟨b3, 1, none⟩ = some (.slice rA m.rules.length rc) := (HC3.out.keep hxr id).cell 1
      clear hP hxr
      by_cases hlt : k < m.rules.length
      · obtain ⟨b, o, ⟨⟨tA, tc, nA, nc, cA, cc⟩, r⟩, rfl, hx, hbl, d0, d1, d2⟩ := rules_get M3.out.fr hlt
        have e0 : wr.cell? ⟨b, o + k * 3, none⟩ = some (.slice tA r.targets.length tc) := d0 _ X4.out
        have hmem := Lib.hid (List.mem_of_getElem? hx)
        have hr : Hid (m.rules[k]? = some r) := by rw [Hid, ← M3.out.rm, List.getElem?_map, hx]; rfl
        have HD : Hid (∀ u, Ext u3 u → u.cell? ⟨b, o + k * 3, none⟩ = some (.slice tA r.targets.length tc) ∧ u.cell? ⟨b, o + k * 3 + 1, none⟩ = some (.slice nA r.needs.length nc) ∧ u.cell? ⟨b, o + k * 3 + 2, none⟩ = some (.slice cA r.cmds.length cc)) := fun u hu => ⟨d0 u hu, d1 u hu, d2 u hu⟩
        have HRr := Lib.hid (M3.out.rr _ hmem.out)
        have HBr := Lib.hid (HGB.out.t r (List.mem_of_getElem? hr.out))
        have hrt := HBr.out.1
        have hrl := HGB.out.r
        clear hx hbl d0 d1 d2
        obtain ⟨bb, oo, t0, rfl, ht, ct⟩ := strs_get (show SlR strF wr tA r.targets.length r.targets from SlR.ext HRr.out.1 X4.out) (k := 0) (by omega)
        have ht0 : r.targets.headD [] = t0 := by
          cases htt : r.targets with
          | nil => rw [htt] at ht; cases ht
          | cons y ys => rw [htt] at ht; exact Option.some.inj ht
        have htl : t0.length ≤ 100 := HBr.out.2.2.2.2.1 t0 (List.mem_of_getElem? ht)
        have ct' : wr.cell? ⟨bb, oo, none⟩ = some (S t0) := ct (X.here wr No)
        have HSt := Lib.hid (RStem_c t0 name (by omega) (by omega) wr)
        have hsl := stemL_le t0 name
        have HPk : Hid (ruleF m l name = if (stemL t0 name).2 = false then patF m l name (m.rules.drop (k + 1)) else if (groupF m r name (stemL t0 name).1).needs.all (hereB m l) = true then some (groupF m r name (stemL t0 name).1) else patF m l name (m.rules.drop (k + 1))) := by
          rw [Hid, ← HP.out, drop_get hr.out, patF, ht0]
        generalize stemL t0 name = q at HSt HPk hsl
        obtain ⟨st, is⟩ := q
        dsimp only at HSt HPk hsl
        clear ht ct ht0
        go_wp2_with fail
        refine HSt.out.mono ?_
        rintro e wq ⟨rfl, hx⟩
        have XQ := Lib.hid (X4.out.then_ext hx)
        clear hx HSt ct' c1 e0
        cases is with
        | false =>
          go_wp2_with fail
          go_roundw
          case rel => exact ⟨k + 1, by omega, by go_num, HPk.out.symm, XQ.out⟩
          case measure => simp [intOf]; omega
        | true =>
          have HPj : Hid (ruleF m l name = if (groupF m r name st).needs.all (hereB m l) = true then some (groupF m r name st) else patF m l name (m.rules.drop (k + 1))) := HPk.out
          have HOq := Lib.hid (fun u (hu : Ext wq u) => HOf.out u (X3.out.then_ext (XQ.out.then_ext hu)) _ hmem.out st (by omega))
          dsimp only at HOq
          have y0 : ∀ ξ : X wq No, ξ.v.cell? ⟨b3, 0, none⟩ = some (.slice vA m.vars.length vc) := (HC3.out.keep XQ.out id).x id 0
          have y1 : ∀ ξ : X wq No, ξ.v.cell? ⟨b3, 1, none⟩ = some (.slice (some ⟨b, o, none⟩) m.rules.length rc) := (HC3.out.keep XQ.out id).x id 1
          have y2 : ∀ ξ : X wq No, ξ.v.cell? ⟨b3, 2, none⟩ = some (.slice pA m.phony.length pc) := (HC3.out.keep XQ.out id).x id 2
          have e0 : ∀ ξ : X wq No, ξ.v.cell? ⟨b, o + k * 3, none⟩ = some (.slice (some ⟨bb, oo, none⟩) r.targets.length tc) := fun ξ => (HD.out _ (XQ.out.then_ext ξ.h)).1
          have e1 : ∀ ξ : X wq No, ξ.v.cell? ⟨b, o + k * 3 + 1, none⟩ = some (.slice nA r.needs.length nc) := fun ξ => (HD.out _ (XQ.out.then_ext ξ.h)).2.1
          have e2 : ∀ ξ : X wq No, ξ.v.cell? ⟨b, o + k * 3 + 2, none⟩ = some (.slice cA r.cmds.length cc) := fun ξ => (HD.out _ (XQ.out.then_ext ξ.h)).2.2
          clear HPk
          go_upto_region 9 with fail
          go_cut [12] from 52 to 60 (fun p u => ∃ (b9 : Nat) (a : RulA) (G : Grp), p = rpt b9 ∧ G = groupF m r name st ∧ Cs u b9 grpT #[.slice a.tA G.targets.length a.tc, .slice a.nA G.needs.length a.nc, .slice a.cA G.cmds.length a.cc, .bool G.phony] ∧ Fresh strF 9 wq u a.tA a.tc G.targets ∧ Fresh strF 9 wq u a.nA a.nc G.needs ∧ Fresh strF 9 wq u a.cA a.cc G.cmds ∧ Ext wq u ∧ wq.heap.size ≤ b9)
          case first =>
            refine Mix.wp_tree 11 [8, 9, 10] (Cl wq No) rfl (by kernel_rfl) (by kernel_rfl) (Cl.drew_ (X.here wq No)) ?_
            obtain ⟨μ0, hμ0⟩ : ∃ u, u = wq.drew := ⟨_, rfl⟩
            have Y : Hid (Ext wq μ0) := by rw [hμ0]; exact (Only.refl No wq).drew
            rw [← hμ0]
            clear hμ0
            (refine Mix.tree_quiet (i := 0) (by kernel_rfl) rfl rfl rfl rfl ?_; intro K hK; go_big_quiet_op; go_big_quiet_on); (refine Mix.tree_quiet (i := 1) (by kernel_rfl) rfl rfl rfl rfl ?_; intro K hK; go_big_quiet_op; go_big_quiet_on); (refine Mix.tree_quiet (i := 2) (by kernel_rfl) rfl rfl rfl rfl ?_; intro K hK; go_big_quiet_op; go_big_quiet_on); (refine Mix.tree_quiet (i := 3) (by kernel_rfl) rfl rfl rfl rfl ?_; intro K hK; go_big_quiet_op; go_big_quiet_on); (refine Mix.tree_quiet (i := 4) (by kernel_rfl) rfl rfl rfl rfl ?_; intro K hK; go_big_quiet_op; go_big_quiet_on); (refine Mix.tree_quiet (i := 5) (by kernel_rfl) rfl rfl rfl rfl ?_; intro K hK; go_big_quiet_op; go_big_quiet_on); (refine Mix.tree_quiet (i := 6) (by kernel_rfl) rfl rfl rfl rfl ?_; intro K hK; go_big_quiet_op; go_big_quiet_on); (refine Mix.tree_quiet (i := 7) (by kernel_rfl) rfl rfl rfl rfl ?_; intro K hK; go_big_quiet_op; go_big_quiet_on)
            refine Mix.tree_two (i := 8) (j := 9) (by kernel_rfl) (by kernel_rfl) rfl rfl rfl rfl rfl rfl ?_ ?_
            ·
              intro K hK
              go_simp
              refine (HOq.out _ Y.out).mono ?_
              rintro e u1 ⟨a, rfl, f1, f2, f3, hx5⟩
              have HFr := Lib.hid (And.intro f1 (And.intro f2 f3))
              obtain ⟨G, hG⟩ : ∃ G, G = groupF m r name st := ⟨_, rfl⟩
              rw [← hG] at HFr ⊢
              have HG := Lib.hid hG
              have xs1 : Hid (Ext wq μ0) := Y.out
              have Y := Lib.hid (Y.out.then_ext hx5)
              refine ⟨_, rfl, hK _ _ (Cl.of Y.out) ?_⟩
              clear hK K hx5 f1 f2 f3 hG
              simp only [Act.put, List.setIfInBounds_toArray, List.set_cons_succ, List.set_cons_zero]
              refine Mix.tree_one (i := 9) (by kernel_rfl) (by kernel_rfl) rfl rfl rfl ?_
              intro K hK
              go_simp
              obtain ⟨va, hva⟩ : ∃ u, u = (u1).alloc (.cells #[.slice none 0 0, .slice none 0 0, .slice none 0 0, .bool false] grpT) := ⟨_, rfl⟩
              obtain ⟨b9, hb9⟩ : ∃ g, g = (u1).heap.size := ⟨_, rfl⟩
              have C : Hid (Cs va b9 grpT #[.slice none 0 0, .slice none 0 0, .slice none 0 0, .bool false]) := by rw [hva, hb9]; exact Cs.new _ _ _
              have B3 : Hid (wq.heap.size ≤ b9) := by rw [Hid, hb9]; exact Y.out.size
              have yva : Ext u1 va := by rw [hva]; exact (Only.refl No _).alloc _
              have HFr := Lib.hid (And.intro (HFr.out.1.on yva) (And.intro (HFr.out.2.1.on yva) (HFr.out.2.2.on yva)))
              have Y := Lib.hid (Y.out.then_ext yva)
              rw [← hva, ← hb9]
              refine hK _ _ (Cl.of Y.out) ?_
              clear hK K hva hb9 yva
              simp only [Act.put, List.setIfInBounds_toArray, List.set_cons_succ, List.set_cons_zero]
              refine Mix.tree_one (i := 10) (by kernel_rfl) (by kernel_rfl) rfl rfl rfl ?_
              intro K hK
              have k0 := C.out.cell 0
              have k1 := C.out.cell 1
              have k2 := C.out.cell 2
              have k3 := C.out.cell 3
              simp only [List.getElem?_toArray, List.getElem?_cons_succ, List.getElem?_cons_zero] at k0 k1 k2 k3
              have z0 := C.out.frozen 0
              have z1 := C.out.frozen 1
              have z2 := C.out.frozen 2
              have z3 := C.out.frozen 3
              go_simp
              obtain ⟨v9, hv9⟩ : ∃ u, u = ((((va).setCell ⟨b9, 0, none⟩ (.slice a.tA G.targets.length a.tc)).setCell ⟨b9, 1, none⟩ (.slice a.nA G.needs.length a.nc)).setCell ⟨b9, 2, none⟩ (.slice a.cA G.cmds.length a.cc)).setCell ⟨b9, 3, none⟩ (.bool G.phony) := ⟨_, rfl⟩
              have O9 : Only (fun q => q = b9) (va) v9 := by rw [hv9]; exact ((((Only.refl _ _).at_ 0 _).at_ 1 _).at_ 2 _).at_ 3 _
              have C9 : Cs v9 b9 grpT #[.slice a.tA G.targets.length a.tc, .slice a.nA G.needs.length a.nc, .slice a.cA G.cmds.length a.cc, .bool G.phony] := by rw [hv9]; exact (((C.out.set_ 0 _).set_ 1 _).set_ 2 _).set_ 3 _
              have y9 : Ext wq v9 := Y.out.trans O9 fun q hq e => by have e : q = b9 := e; have := B3.out; omega
              have F1 : Fresh strF 9 wq v9 a.tA a.tc G.targets := (HFr.out.1.from xs1.out).keep O9 y9 (own_ne_cs HFr.out.1.own C.out (by decide))
              have F2 : Fresh strF 9 wq v9 a.nA a.nc G.needs := (HFr.out.2.1.from xs1.out).keep O9 y9 (own_ne_cs HFr.out.2.1.own C.out (by decide))
              have F3 : Fresh strF 9 wq v9 a.cA a.cc G.cmds := (HFr.out.2.2.from xs1.out).keep O9 y9 (own_ne_cs HFr.out.2.2.own C.out (by decide))
              rw [← hv9]
              refine hK _ _ (Cl.of y9) ?_
              have hb3 := B3.out
              clear hK K hv9 k0 k1 k2 k3 z0 z1 z2 z3
              simp only [Act.put, List.setIfInBounds_toArray, List.set_cons_succ, List.set_cons_zero]
              refine Mix.tree_nil ?_
              go_wp2_with fail
              go_meet
              exact ⟨b9, a, G, rfl, HG.out, C9, F1, F2, F3, y9, hb3⟩
            ·
              intro K hK
              go_simp
              obtain ⟨va, hva⟩ : ∃ u, u = (μ0).alloc (.cells #[.slice none 0 0, .slice none 0 0, .slice none 0 0, .bool false] grpT) := ⟨_, rfl⟩
              obtain ⟨b9, hb9⟩ : ∃ g, g = (μ0).heap.size := ⟨_, rfl⟩
              have C : Hid (Cs va b9 grpT #[.slice none 0 0, .slice none 0 0, .slice none 0 0, .bool false]) := by rw [hva, hb9]; exact Cs.new _ _ _
              have B3 : Hid (wq.heap.size ≤ b9) := by rw [Hid, hb9]; exact Y.out.size
              have yva : Ext μ0 va := by rw [hva]; exact (Only.refl No _).alloc _
              have Y := Lib.hid (Y.out.then_ext yva)
              rw [← hva, ← hb9]
              refine hK _ _ (Cl.of Y.out) ?_
              clear hK K hva hb9 yva
              simp only [Act.put, List.setIfInBounds_toArray, List.set_cons_succ, List.set_cons_zero]
              refine Mix.tree_one (i := 8) (by kernel_rfl) (by kernel_rfl) rfl rfl rfl ?_
              intro K hK
              go_simp
              refine (HOq.out _ Y.out).mono ?_
              rintro e u1 ⟨a, rfl, f1, f2, f3, hx5⟩
              have HFr := Lib.hid (And.intro f1 (And.intro f2 f3))
              have C := Lib.hid (C.out.keep hx5 id)
              obtain ⟨G, hG⟩ : ∃ G, G = groupF m r name st := ⟨_, rfl⟩
              rw [← hG] at HFr ⊢
              have HG := Lib.hid hG
              have xs1 : Hid (Ext wq va) := Y.out
              have Y := Lib.hid (Y.out.then_ext hx5)
              refine ⟨_, rfl, hK _ _ (Cl.of Y.out) ?_⟩
              clear hK K hx5 f1 f2 f3 hG
              simp only [Act.put, List.setIfInBounds_toArray, List.set_cons_succ, List.set_cons_zero]
              refine Mix.tree_one (i := 10) (by kernel_rfl) (by kernel_rfl) rfl rfl rfl ?_
              intro K hK
              have k0 := C.out.cell 0
              have k1 := C.out.cell 1
              have k2 := C.out.cell 2
              have k3 := C.out.cell 3
              simp only [List.getElem?_toArray, List.getElem?_cons_succ, List.getElem?_cons_zero] at k0 k1 k2 k3
              have z0 := C.out.frozen 0
              have z1 := C.out.frozen 1
              have z2 := C.out.frozen 2
              have z3 := C.out.frozen 3
              go_simp
              obtain ⟨v9, hv9⟩ : ∃ u, u = ((((u1).setCell ⟨b9, 0, none⟩ (.slice a.tA G.targets.length a.tc)).setCell ⟨b9, 1, none⟩ (.slice a.nA G.needs.length a.nc)).setCell ⟨b9, 2, none⟩ (.slice a.cA G.cmds.length a.cc)).setCell ⟨b9, 3, none⟩ (.bool G.phony) := ⟨_, rfl⟩
              have O9 : Only (fun q => q = b9) (u1) v9 := by rw [hv9]; exact ((((Only.refl _ _).at_ 0 _).at_ 1 _).at_ 2 _).at_ 3 _
              have C9 : Cs v9 b9 grpT #[.slice a.tA G.targets.length a.tc, .slice a.nA G.needs.length a.nc, .slice a.cA G.cmds.length a.cc, .bool G.phony] := by rw [hv9]; exact (((C.out.set_ 0 _).set_ 1 _).set_ 2 _).set_ 3 _
              have y9 : Ext wq v9 := Y.out.trans O9 fun q hq e => by have e : q = b9 := e; have := B3.out; omega
              have F1 : Fresh strF 9 wq v9 a.tA a.tc G.targets := (HFr.out.1.from xs1.out).keep O9 y9 (own_ne_cs HFr.out.1.own C.out (by decide))
              have F2 : Fresh strF 9 wq v9 a.nA a.nc G.needs := (HFr.out.2.1.from xs1.out).keep O9 y9 (own_ne_cs HFr.out.2.1.own C.out (by decide))
              have F3 : Fresh strF 9 wq v9 a.cA a.cc G.cmds := (HFr.out.2.2.from xs1.out).keep O9 y9 (own_ne_cs HFr.out.2.2.own C.out (by decide))
              rw [← hv9]
              refine hK _ _ (Cl.of y9) ?_
              have hb3 := B3.out
              clear hK K hv9 k0 k1 k2 k3 z0 z1 z2 z3
              simp only [Act.put, List.setIfInBounds_toArray, List.set_cons_succ, List.set_cons_zero]
              refine Mix.tree_nil ?_
              go_wp2_with fail
              go_meet
              exact ⟨b9, a, G, rfl, HG.out, C9, F1, F2, F3, y9, hb3⟩
          case rest =>
            obtain ⟨b9, a, G, rfl, hG, hC9, f1, f2, f3, hx9, hb9⟩ := hcut
            have hnn : G.needs.length ≤ 3 := by rw [hG]; show (ndsOf r st).length ≤ 3; unfold ndsOf; rw [List.length_map]; exact HBr.out.2.2.1
            have HFr := Lib.hid (And.intro f1 (And.intro f2 f3))
            have C9 := Lib.hid hC9
            have X9 := Lib.hid hx9
            have HPz : Hid (ruleF m l name = if G.needs.all (hereB m l) = true then some G else patF m l name (m.rules.drop (k + 1))) := by rw [Hid, HPj.out, ← hG]
            obtain ⟨tA2, tc2, nA2, nc2, cA2, cc2⟩ := a
            have HNs : Hid (SlR strF wc nA2 G.needs.length G.needs) := f2.row (by decide)
            clear hG hC9 f1 f2 f3 hx9 HPj y0 y1 y2 e0 e1 e2 HOq
            have dk : wc.cell? ⟨b9, 1, none⟩ = some (.slice nA2 G.needs.length nc2) := C9.out.cell 1
            go_wp2_with fail
            go_loopw [13, 14] (fun z i wr => ∃ j : Nat, j ≤ G.needs.length ∧ i = .int .i64 j ∧ z = .bool ((G.needs.take j).all (hereB m l)) ∧ Ext wc wr) (fun _ i _ => G.needs.length - (intOf i).toNat)
            case atStart => exact ⟨0, Nat.zero_le _, rfl, rfl, Only.refl _ _⟩
            case round =>
              clear dk
              obtain ⟨j, hj, rfl, rfl, hxr⟩ := hrel
              have XJ := Lib.hid hxr
              have CJ := Lib.hid (C9.out.keep hxr id)
              have dk : wr.cell? ⟨b9, 1, none⟩ = some (.slice nA2 G.needs.length nc2) := CJ.out.cell 1
              clear hxr
              by_cases hlj : j < G.needs.length
              · obtain ⟨bn, on, t, rfl, ht, ct⟩ := strs_get HNs.out hlj
                have ct' : wr.cell? ⟨bn, on + j, none⟩ = some (S t) := ct ⟨wr, XJ.out⟩
                have xw2 : Hid (Ext w2 wr) := X3.out.then_ext (XQ.out.then_ext (X9.out.then_ext XJ.out))
                have HGe := Lib.hid (RGet_c (c := lc) (HFl.out.ext xw2.out) (by omega) t)
                obtain ⟨fi, hfi⟩ : ∃ q, q = getB t l := ⟨_, rfl⟩
                rw [← hfi] at HGe
                obtain ⟨al, hal⟩ : ∃ q, q = (G.needs.take j).all (hereB m l) := ⟨_, rfl⟩
                rw [← hal]
                have HAl : Hid ((G.needs.take (j + 1)).all (hereB m l) = (al && (fi || (explF m.rules t).isSome))) := by
                  rw [Hid, List.take_add_one, ht, List.all_append, ← hal, hfi]
                  simp [hereB]
                have HCt : Hid (∀ u, Ext wr u → u.cell? ⟨bn, on + j, none⟩ = some (S t)) := fun u hu => ct ⟨u, XJ.out.then_ext hu⟩
                clear ht ct hfi hal
                go_wp2_with fail
                refine HGe.out.mono ?_
                rintro e u5 ⟨rfl, hx⟩
                have X5 := Lib.hid hx
                clear hx HGe ct' dk
                have HEt := Lib.hid (HEx.out)
                have q0 : ∀ ξ : X u5 No, ξ.v.cell? ⟨b3, 0, none⟩ = some (.slice vA m.vars.length vc) := (HC.out.1.keep (xw2.out.then_ext X5.out) id).x id 0
                have q1 : ∀ ξ : X u5 No, ξ.v.cell? ⟨b3, 1, none⟩ = some (.slice (some ⟨b, o, none⟩) m.rules.length rc) := (HC.out.1.keep (xw2.out.then_ext X5.out) id).x id 1
                have q2 : ∀ ξ : X u5 No, ξ.v.cell? ⟨b3, 2, none⟩ = some (.slice pA m.phony.length pc) := (HC.out.1.keep (xw2.out.then_ext X5.out) id).x id 2
                have dk : ∀ ξ : X u5 No, ξ.v.cell? ⟨b9, 1, none⟩ = some (.slice (some ⟨bn, on, none⟩) G.needs.length nc2) := (CJ.out.keep X5.out id).x id 1
                have ct' : ∀ ξ : X u5 No, ξ.v.cell? ⟨bn, on + j, none⟩ = some (S t) := fun ξ => HCt.out _ (X5.out.then_ext ξ.h)
                have H1 := Lib.hid (expl_some m.rules t)
                have H2 := Lib.hid (idxI_ge (o := m.rules.findIdx? fun r => inS r.targets t))
                go_upto_region 15 with fail
                refine Mix.wp_draw [10] 100 (Cl u5 No) (by kernel_rfl) (by kernel_rfl) (Cl.of (Only.refl _ _).drew) ?_
                have R5 : Hid (Ext w2 u5.drew) := (xw2.out.then_ext X5.out).then_ext (Only.refl No _).drew
                cases al with
                | false =>
                  (repeat' (first | (refine Mix.lex_quiet0 rfl rfl rfl ?_; intro K hK; go_big_quiet_op; go_big_quiet_on) | (refine Mix.lex_quietG rfl rfl rfl (by with_reducible rfl) rfl rfl ?_; intro K hK; go_big_quiet_op; go_big_quiet_on) | ((first | refine Mix.lex_skipT rfl rfl rfl (by with_reducible rfl) ?_ | refine Mix.lex_skipF rfl rfl rfl (by with_reducible rfl) ?_ | refine Mix.lex_skipU rfl rfl rfl (by with_reducible rfl) ?_); simp only [Act.put, List.setIfInBounds_toArray, List.set_cons_succ, List.set_cons_zero]) | (refine Mix.lex_part rfl rfl rfl rfl (fun hq => ?_) (fun hq => ?_) <;> (fail_if_success (guard_hyp hq :ₛ true = true)) <;> (fail_if_success (guard_hyp hq :ₛ false = false)) <;> first | (exfalso; cases hq; done) | (exfalso; simp only [decide_eq_true_eq, decide_eq_false_iff_not, beq_iff_eq, beq_eq_false_iff_ne, ne_eq, Int.not_lt, Int.not_le] at hq; omega) | simp only [Act.put, List.setIfInBounds_toArray, List.set_cons_succ, List.set_cons_zero])))
                  refine Mix.lex_nil ?_
                  go_wp2_with fail
                  go_roundw
                  case rel => exact ⟨j + 1, by omega, by go_num, by rw [HAl.out]; rfl, XJ.out.then_ext (X5.out.then_ext (Only.refl No _).drew)⟩
                  case measure => simp [intOf]; omega
                | true =>
                  cases fi with
                  | true =>
                    (repeat' (first | (refine Mix.lex_quiet0 rfl rfl rfl ?_; intro K hK; go_big_quiet_op; go_big_quiet_on) | (refine Mix.lex_quietG rfl rfl rfl (by with_reducible rfl) rfl rfl ?_; intro K hK; go_big_quiet_op; go_big_quiet_on) | ((first | refine Mix.lex_skipT rfl rfl rfl (by with_reducible rfl) ?_ | refine Mix.lex_skipF rfl rfl rfl (by with_reducible rfl) ?_ | refine Mix.lex_skipU rfl rfl rfl (by with_reducible rfl) ?_); simp only [Act.put, List.setIfInBounds_toArray, List.set_cons_succ, List.set_cons_zero]) | (refine Mix.lex_part rfl rfl rfl rfl (fun hq => ?_) (fun hq => ?_) <;> (fail_if_success (guard_hyp hq :ₛ true = true)) <;> (fail_if_success (guard_hyp hq :ₛ false = false)) <;> first | (exfalso; cases hq; done) | (exfalso; simp only [decide_eq_true_eq, decide_eq_false_iff_not, beq_iff_eq, beq_eq_false_iff_ne, ne_eq, Int.not_lt, Int.not_le] at hq; omega) | simp only [Act.put, List.setIfInBounds_toArray, List.set_cons_succ, List.set_cons_zero])))
                    refine Mix.lex_nil ?_
                    go_wp2_with fail
                    go_roundw
                    case rel => exact ⟨j + 1, by omega, by go_num, by rw [HAl.out]; rfl, XJ.out.then_ext (X5.out.then_ext (Only.refl No _).drew)⟩
                    case measure => simp [intOf]; omega
                  | false =>
                    (repeat' (first | (refine Mix.lex_quiet0 rfl rfl rfl ?_; intro K hK; go_big_quiet_op; go_big_quiet_on) | (refine Mix.lex_quietG rfl rfl rfl (by with_reducible rfl) rfl rfl ?_; intro K hK; go_big_quiet_op; go_big_quiet_on) | ((first | refine Mix.lex_skipT rfl rfl rfl (by with_reducible rfl) ?_ | refine Mix.lex_skipF rfl rfl rfl (by with_reducible rfl) ?_ | refine Mix.lex_skipU rfl rfl rfl (by with_reducible rfl) ?_); simp only [Act.put, List.setIfInBounds_toArray, List.set_cons_succ, List.set_cons_zero]) | (refine Mix.lex_part rfl rfl rfl rfl (fun hq => ?_) (fun hq => ?_) <;> (fail_if_success (guard_hyp hq :ₛ true = true)) <;> (fail_if_success (guard_hyp hq :ₛ false = false)) <;> first | (exfalso; cases hq; done) | (exfalso; simp only [decide_eq_true_eq, decide_eq_false_iff_not, beq_iff_eq, beq_eq_false_iff_ne, ne_eq, Int.not_lt, Int.not_le] at hq; omega) | simp only [Act.put, List.setIfInBounds_toArray, List.set_cons_succ, List.set_cons_zero])))
                    ((first | refine Mix.lex_goes0 rfl rfl ?_ | refine Mix.lex_goesG rfl rfl rfl (by with_reducible rfl) rfl ?_); intro K hK; go_simp)
                    refine (HEx.out _ R5.out t).mono ?_
                    rintro e u6 ⟨rfl, hx⟩
                    have X6 : Hid (Ext u5 u6) := (Only.refl No u5).drew.then_ext hx
                    refine ⟨_, rfl, hK _ _ (fun _ => Cl.of X6.out) ?_⟩
                    clear hK K hx q0 q1 q2 dk ct'
                    simp only [Act.put, List.setIfInBounds_toArray, List.set_cons_succ, List.set_cons_zero]
                    have H3 : decide ((0 : Int) ≤ idxI (m.rules.findIdx? fun r => inS r.targets t)) = (explF m.rules t).isSome := by rw [← H1.out, ← H2.out]
                    generalize (explF m.rules t).isSome = ex at H3 HAl
                    generalize idxI (m.rules.findIdx? fun r => inS r.targets t) = ix at H3 ⊢
                    clear H1 H2
                    cases ex with
                    | false =>
                      (repeat' (first | (refine Mix.lex_quiet0 rfl rfl rfl ?_; intro K hK; go_big_quiet_op; go_big_quiet_on) | (refine Mix.lex_quietG rfl rfl rfl (by with_reducible rfl) rfl rfl ?_; intro K hK; go_big_quiet_op; go_big_quiet_on) | ((first | refine Mix.lex_skipT rfl rfl rfl (by with_reducible rfl) ?_ | refine Mix.lex_skipF rfl rfl rfl (by with_reducible rfl) ?_ | refine Mix.lex_skipU rfl rfl rfl (by with_reducible rfl) ?_); simp only [Act.put, List.setIfInBounds_toArray, List.set_cons_succ, List.set_cons_zero]) | (refine Mix.lex_part rfl rfl rfl rfl (fun hq => ?_) (fun hq => ?_) <;> (fail_if_success (guard_hyp hq :ₛ true = true)) <;> (fail_if_success (guard_hyp hq :ₛ false = false)) <;> first | (exfalso; cases hq; done) | (exfalso; simp only [decide_eq_true_eq, decide_eq_false_iff_not, beq_iff_eq, beq_eq_false_iff_ne, ne_eq, Int.not_lt, Int.not_le] at hq; omega) | simp only [Act.put, List.setIfInBounds_toArray, List.set_cons_succ, List.set_cons_zero])))
                      refine Mix.lex_nil ?_
                      go_wp2_with fail
                      go_roundw
                      case rel => exact ⟨j + 1, by omega, by go_num, by rw [HAl.out]; rfl, XJ.out.then_ext (X5.out.then_ext X6.out)⟩
                      case measure => simp [intOf]; omega
                    | true =>
                      (repeat' (first | (refine Mix.lex_quiet0 rfl rfl rfl ?_; intro K hK; go_big_quiet_op; go_big_quiet_on) | (refine Mix.lex_quietG rfl rfl rfl (by with_reducible rfl) rfl rfl ?_; intro K hK; go_big_quiet_op; go_big_quiet_on) | ((first | refine Mix.lex_skipT rfl rfl rfl (by with_reducible rfl) ?_ | refine Mix.lex_skipF rfl rfl rfl (by with_reducible rfl) ?_ | refine Mix.lex_skipU rfl rfl rfl (by with_reducible rfl) ?_); simp only [Act.put, List.setIfInBounds_toArray, List.set_cons_succ, List.set_cons_zero]) | (refine Mix.lex_part rfl rfl rfl rfl (fun hq => ?_) (fun hq => ?_) <;> (fail_if_success (guard_hyp hq :ₛ true = true)) <;> (fail_if_success (guard_hyp hq :ₛ false = false)) <;> first | (exfalso; cases hq; done) | (exfalso; simp only [decide_eq_true_eq, decide_eq_false_iff_not, beq_iff_eq, beq_eq_false_iff_ne, ne_eq, Int.not_lt, Int.not_le] at hq; omega) | simp only [Act.put, List.setIfInBounds_toArray, List.set_cons_succ, List.set_cons_zero])))
                      refine Mix.lex_nil ?_
                      go_wp2_with fail
                      go_roundw
                      case rel => exact ⟨j + 1, by omega, by go_num, by rw [HAl.out]; rfl, XJ.out.then_ext (X5.out.then_ext X6.out)⟩
                      case measure => simp [intOf]; omega
              · obtain rfl : j = G.needs.length := by omega
                rw [List.take_of_length_le (Nat.le_refl _)]
                obtain ⟨z, hz⟩ : ∃ z, z = G.needs.all (hereB m l) := ⟨_, rfl⟩
                rw [← hz]
                rw [← hz] at HPz
                clear hz
                cases z with
                | false =>
                  go_wp2_with fail
                  go_roundw
                  case rel => exact ⟨k + 1, by omega, by go_num, HPz.out.symm, XQ.out.then_ext (X9.out.then_ext XJ.out)⟩
                  case measure => simp [intOf]; omega
                | true =>
                  have X7 := Lib.hid (X9.out.then_ext XJ.out)
                  have D4 := Lib.hid (HC.out.2.keep (X3.out.then_ext (XQ.out.then_ext X7.out)) id)
                  have HF7 := Lib.hid (And.intro (HFr.out.1.on XJ.out) (And.intro (HFr.out.2.1.on XJ.out) (HFr.out.2.2.on XJ.out)))
                  have k0 : wr.cell? ⟨b6, 0, none⟩ = some (.slice none 0 0) := D4.out.cell 0
                  have k1 : wr.cell? ⟨b6, 1, none⟩ = some (.slice none 0 0) := D4.out.cell 1
                  have k2 : wr.cell? ⟨b6, 2, none⟩ = some (.slice none 0 0) := D4.out.cell 2
                  have k3 : wr.cell? ⟨b6, 3, none⟩ = some (.bool false) := D4.out.cell 3
                  have z0 := D4.out.frozen 0
                  have z1 := D4.out.frozen 1
                  have z2 := D4.out.frozen 2
                  have z3 := D4.out.frozen 3
                  have HO : Hid (∀ a b c d, Only (fun b => b = b6) wr ((((wr.setCell ⟨b6, 0, none⟩ a).setCell ⟨b6, 1, none⟩ b).setCell ⟨b6, 2, none⟩ c).setCell ⟨b6, 3, none⟩ d)) := fun a b c d => ((((Only.refl _ _).at_ 0 a).at_ 1 b).at_ 2 c).at_ 3 d
                  have HS : Hid (∀ a b c d, Cs ((((wr.setCell ⟨b6, 0, none⟩ a).setCell ⟨b6, 1, none⟩ b).setCell ⟨b6, 2, none⟩ c).setCell ⟨b6, 3, none⟩ d) b6 grpT #[a, b, c, d]) := fun a b c d => (((D4.out.set_ 0 a).set_ 1 b).set_ 2 c).set_ 3 d
                  have q0 : wr.cell? ⟨b9, 0, none⟩ = some (.slice tA2 G.targets.length tc2) := CJ.out.cell 0
                  have q2 : wr.cell? ⟨b9, 2, none⟩ = some (.slice cA2 G.cmds.length cc2) := CJ.out.cell 2
                  have q3 : wr.cell? ⟨b9, 3, none⟩ = some (.bool G.phony) := CJ.out.cell 3
                  have HPg : Hid (ruleF m l name = some G) := HPz.out
                  clear HPz
                  go_wp2_with fail
                  have hO := HO.out (.slice tA2 G.targets.length tc2) (.slice nA2 G.needs.length nc2) (.slice cA2 G.cmds.length cc2) (.bool G.phony)
                  have hl := load_grp (HS.out (.slice tA2 G.targets.length tc2) (.slice nA2 G.needs.length nc2) (.slice cA2 G.cmds.length cc2) (.bool G.phony))
                  have xw : Ext w wq := X2.out.then_ext (X3.out.then_ext XQ.out)
                  have x6 := (xw.then_ext X7.out).trans hO fun q hq e => by have e : q = b6 := e; have := HB.out; omega
                  refine bodyPost_cell (p := 6) (u := 7) (ty := grpT) (ad := ⟨b6, 0, none⟩) rfl rfl rfl hl ?_
                  rw [HPg.out]
                  obtain ⟨f1, f2, f3⟩ := HF7.out
                  exact ⟨⟨tA2, tc2, nA2, nc2, cA2, cc2⟩, rfl, (f1.from xw).keep hO x6 (own_ne_cs f1.own D4.out (by decide)), (f2.from xw).keep hO x6 (own_ne_cs f2.own D4.out (by decide)), (f3.from xw).keep hO x6 (own_ne_cs f3.own D4.out (by decide)), x6⟩
      · obtain rfl : k = m.rules.length := by omega
        have HR : Hid (ruleF m l name = none) := by rw [Hid, ← HP.out, List.drop_of_length_le (Nat.le_refl _)]; rfl
        have D4 := Lib.hid (HC.out.2.keep (X3.out.then_ext X4.out) id)
        have k0 : wr.cell? ⟨b6, 0, none⟩ = some (.slice none 0 0) := D4.out.cell 0
        have k1 : wr.cell? ⟨b6, 1, none⟩ = some (.slice none 0 0) := D4.out.cell 1
        have k2 : wr.cell? ⟨b6, 2, none⟩ = some (.slice none 0 0) := D4.out.cell 2
        have k3 : wr.cell? ⟨b6, 3, none⟩ = some (.bool false) := D4.out.cell 3
        have z0 := D4.out.frozen 0
        have z1 := D4.out.frozen 1
        have z2 := D4.out.frozen 2
        have z3 := D4.out.frozen 3
        have HO : Hid (∀ a b c d, Only (fun b => b = b6) wr ((((wr.setCell ⟨b6, 0, none⟩ a).setCell ⟨b6, 1, none⟩ b).setCell ⟨b6, 2, none⟩ c).setCell ⟨b6, 3, none⟩ d)) := fun a b c d => ((((Only.refl _ _).at_ 0 a).at_ 1 b).at_ 2 c).at_ 3 d
        have HS : Hid (∀ a b c d, Cs ((((wr.setCell ⟨b6, 0, none⟩ a).setCell ⟨b6, 1, none⟩ b).setCell ⟨b6, 2, none⟩ c).setCell ⟨b6, 3, none⟩ d) b6 grpT #[a, b, c, d]) := fun a b c d => (((D4.out.set_ 0 a).set_ 1 b).set_ 2 c).set_ 3 d
        have hg0 : ∀ w : World, (Instr.build grpT #[]).run Tryz.prog w = .ok (.agg #[.slice none 0 0, .slice none 0 0, .slice none 0 0, .bool false]) w := fun w => run_build w grpT _ _ (by kernel_rfl)
        go_wp2_with fail
        refine bodyPost_cell (p := 6) (u := 7) (ty := grpT) (ad := ⟨b6, 0, none⟩) rfl rfl rfl (load_grp (HS.out _ _ _ _)) ?_
        rw [HR.out]
        exact ⟨rfl, (X2.out.then_ext (X3.out.then_ext X4.out)).trans (HO.out _ _ _ _) fun q hq e => by have e : q = b6 := e; have := HB.out; omega⟩
  · have hk : k < m.rules.length := (List.getElem?_eq_some_iff.1 hr).1
    obtain ⟨b, o, x, rfl, hx, hbl, d0, d1, d2⟩ := rules_get HM0.out.fr hk
    have hxr : x.2 = r := by
      have h1 := hr
      rw [← HM0.out.rm, List.getElem?_map, hx] at h1
      exact Option.some.inj h1
    have HR : Hid (ruleF m l name = some (groupF m x.2 name [])) := by rw [Hid, ruleF, hs, hxr]
    have HOx := Lib.hid (fun u hu => HOf.out u hu x (List.mem_of_getElem? hx) [] (Nat.zero_le _))
    have hrl := HGB.out.r
    rw [hi] at HE
    clear hi hr hs hx hxr
    go_wp2_with fail
    refine HE.out.mono ?_
    rintro e u3 ⟨rfl, hx⟩
    have X3 := Lib.hid hx
    clear hx HE
    obtain ⟨F, hF⟩ : ∃ F : Nat → Prop, F = fun q => q = b6 := ⟨_, rfl⟩
    have fb : ¬ F b := by rw [hF]; intro e; have e : b = b6 := e; have := HB.out; omega
    have f2 : ¬ F b3 := by rw [hF]; exact HB.out.2.2
    have y0 : ∀ ξ : X u3 F, ξ.v.cell? ⟨b3, 0, none⟩ = some (.slice vA m.vars.length vc) := (HC.out.1.keep X3.out id).x f2 0
    have y1 : ∀ ξ : X u3 F, ξ.v.cell? ⟨b3, 1, none⟩ = some (.slice (some ⟨b, o, none⟩) m.rules.length rc) := (HC.out.1.keep X3.out id).x f2 1
    have y2 : ∀ ξ : X u3 F, ξ.v.cell? ⟨b3, 2, none⟩ = some (.slice pA m.phony.length pc) := (HC.out.1.keep X3.out id).x f2 2
    have e0 : ∀ ξ : X u3 F, ξ.v.cell? ⟨b, o + k * 3, none⟩ = some (.slice x.1.tA x.2.targets.length x.1.tc) := fun ξ => (ξ.h.cell (p := ⟨b, o + k * 3, none⟩) (Nat.lt_of_lt_of_le hbl (X2.out.then_ext X3.out).size) fb).trans (d0 _ (X2.out.then_ext X3.out))
    have e1 : ∀ ξ : X u3 F, ξ.v.cell? ⟨b, o + k * 3 + 1, none⟩ = some (.slice x.1.nA x.2.needs.length x.1.nc) := fun ξ => (ξ.h.cell (p := ⟨b, o + k * 3 + 1, none⟩) (Nat.lt_of_lt_of_le hbl (X2.out.then_ext X3.out).size) fb).trans (d1 _ (X2.out.then_ext X3.out))
    have e2 : ∀ ξ : X u3 F, ξ.v.cell? ⟨b, o + k * 3 + 2, none⟩ = some (.slice x.1.cA x.2.cmds.length x.1.cc) := fun ξ => (ξ.h.cell (p := ⟨b, o + k * 3 + 2, none⟩) (Nat.lt_of_lt_of_le hbl (X2.out.then_ext X3.out).size) fb).trans (d2 _ (X2.out.then_ext X3.out))
    have HF := Lib.hid hF
    clear d0 d1 d2 c0 c1 c2 hF fb f2
    obtain ⟨μ, hμ⟩ : ∃ u, u = u3.drew := ⟨_, rfl⟩
    have xμ : Hid (Ext u3 μ) := by rw [hμ]; exact (Only.refl No _).drew
    go_upto_region 3 with fail
    refine Mix.wp_draw [7, 8] 100 (Cl u3 F) (by kernel_rfl) (by kernel_rfl) (Cl.of (Only.refl _ _).drew) ?_
    rw [← hμ]
    clear hμ
    (repeat' (refine Mix.lex_quiet0 rfl rfl rfl ?_; intro K hK; go_big_quiet_op; go_big_quiet_on))
    ((first | refine Mix.lex_goes0 rfl rfl ?_ | refine Mix.lex_goesG rfl rfl rfl (by with_reducible rfl) rfl ?_); intro K hK; go_simp)
    refine (HOx.out _ (X3.out.then_ext xμ.out)).mono ?_
    rintro e u5 ⟨a, rfl, f1, f2, f3, hx5⟩
    have X5 := Lib.hid (xμ.out.then_ext hx5)
    have HFr := Lib.hid (And.intro f1 (And.intro f2 f3))
    obtain ⟨G, hG⟩ : ∃ G, G = groupF m x.2 name [] := ⟨_, rfl⟩
    rw [← hG] at HR HFr ⊢
    have C5 := Lib.hid ((HC.out.2.keep X3.out id).keep X5.out id)
    refine ⟨_, rfl, hK _ _ (fun _ => Cl.of (X5.out.weak fun b _ e => e.elim)) ?_⟩
    clear hK K f1 f2 f3 hx5 hG
    simp only [Act.put, List.setIfInBounds_toArray, List.set_cons_succ, List.set_cons_zero]
    have k0 : u5.cell? ⟨b6, 0, none⟩ = some (.slice none 0 0) := C5.out.cell 0
    have k1 : u5.cell? ⟨b6, 1, none⟩ = some (.slice none 0 0) := C5.out.cell 1
    have k2 : u5.cell? ⟨b6, 2, none⟩ = some (.slice none 0 0) := C5.out.cell 2
    have k3 : u5.cell? ⟨b6, 3, none⟩ = some (.bool false) := C5.out.cell 3
    have z0 := C5.out.frozen 0
    have z1 := C5.out.frozen 1
    have z2 := C5.out.frozen 2
    have z3 := C5.out.frozen 3
    ((first | refine Mix.lex_goes0 rfl rfl ?_ | refine Mix.lex_goesG rfl rfl rfl (by with_reducible rfl) rfl ?_); intro K hK; go_simp)
    obtain ⟨v6, hv6⟩ : ∃ u, u = ((((u5).setCell ⟨b6, 0, none⟩ (.slice a.tA G.targets.length a.tc)).setCell ⟨b6, 1, none⟩ (.slice a.nA G.needs.length a.nc)).setCell ⟨b6, 2, none⟩ (.slice a.cA G.cmds.length a.cc)).setCell ⟨b6, 3, none⟩ (.bool G.phony) := ⟨_, rfl⟩
    have O6 : Only (fun q => q = b6) u5 v6 := by rw [hv6]; exact ((((Only.refl _ _).at_ 0 _).at_ 1 _).at_ 2 _).at_ 3 _
    have C6 : Cs v6 b6 grpT #[.slice a.tA G.targets.length a.tc, .slice a.nA G.needs.length a.nc, .slice a.cA G.cmds.length a.cc, .bool G.phony] := by rw [hv6]; exact (((C5.out.set_ 0 _).set_ 1 _).set_ 2 _).set_ 3 _
    have xw : Ext w u5 := X2.out.then_ext (X3.out.then_ext X5.out)
    have x6 : Ext w v6 := xw.trans O6 fun q hq e => by have e : q = b6 := e; have := HB.out; omega
    have E6 : Hid (RulRes w (some G) (.returned (.tuple #[grpW (a, G), .bool true])) v6) := by
      obtain ⟨f1, f2, f3⟩ := HFr.out
      have hxx : Ext w μ := X2.out.then_ext (X3.out.then_ext xμ.out)
      exact ⟨a, rfl, (f1.from hxx).keep O6 x6 (own_ne_cs f1.own C5.out (by decide)), (f2.from hxx).keep O6 x6 (own_ne_cs f2.own C5.out (by decide)), (f3.from hxx).keep O6 x6 (own_ne_cs f3.own C5.out (by decide)), x6⟩
    have Y6 : Hid (Only F u3 v6) := by
      rw [Hid, HF.out]
      exact (X5.out.weak fun b _ e => e.elim).trans O6 fun _ _ e => e
    rw [← hv6]
    refine hK _ _ (fun _ => Cl.of Y6.out) ?_
    have HC6 := Lib.hid C6
    clear hK K hv6 k0 k1 k2 k3 z0 z1 z2 z3 O6 C6 xw x6
    simp only [Act.put, List.setIfInBounds_toArray, List.set_cons_succ, List.set_cons_zero]
    (repeat' (refine Mix.lex_quiet0 rfl rfl rfl ?_; intro K hK; go_big_quiet_op; go_big_quiet_on))
    refine Mix.lex_nil ?_
    go_wp2_with fail
    refine bodyPost_cell (p := 6) (u := 7) (ty := grpT) (ad := ⟨b6, 0, none⟩) rfl rfl rfl (load_grp HC6.out) ?_
    rw [HR.out]
    exact E6.out
end Go.Proofs.YtnhaekifcieeoaaGreatDoor
