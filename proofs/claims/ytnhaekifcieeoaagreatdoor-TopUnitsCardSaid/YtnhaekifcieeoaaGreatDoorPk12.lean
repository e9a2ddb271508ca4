/- Put together: Gx5, Gx6, Gx7. -/
import Derived.Test.YtnhaekifcieeoaaGreatDoorPk11
import Derived.Test.YtnhaekifcieeoaaGreatDoorPk03
namespace Go.Proofs.YtnhaekifcieeoaaGreatDoor
open Go Go.RowKit
def RulRes (w : World) : Option Grp → Ending → World → Prop
  | some g, e, w' => ∃ a : RulA, e = .returned (.tuple #[grpV (a, g), .bool true]) ∧ Fresh strF 9 w w' a.tA a.tc g.targets ∧ Fresh strF 9 w w' a.nA a.nc g.needs ∧ Fresh strF 9 w w' a.cA a.cc g.cmds ∧ Ext w w'
  | none, e, w' => e = .returned (.tuple #[.agg #[.slice none 0 0, .slice none 0 0, .slice none 0 0, .bool false], .bool false]) ∧ Ext w w'
theorem stemL_le (a b : Str) : (stemL a b).1.length ≤ b.length := by
  unfold stemL
  split
  · simp only [List.length_drop, List.length_take]; omega
  · exact Nat.zero_le _
theorem expl_idx (rs : List Rul) (n : Str) : (explF rs n = none ∧ idxI (rs.findIdx? fun r => inS r.targets n) = -1) ∨ ∃ (k : Nat) (r : Rul), rs[k]? = some r ∧ explF rs n = some r ∧ idxI (rs.findIdx? fun r => inS r.targets n) = (k : Int) := by
  unfold explF
  cases h : rs.findIdx? fun r => inS r.targets n with
  | none =>
    refine .inl ⟨?_, rfl⟩
    rw [List.findIdx?_eq_none_iff] at h
    exact List.find?_eq_none.2 fun x hx => by simp [h x hx]
  | some k =>
    obtain ⟨hk, hp, hq⟩ := List.findIdx?_eq_some_iff_getElem.1 h
    refine .inr ⟨k, rs[k], List.getElem?_eq_getElem hk, ?_, rfl⟩
    refine List.find?_eq_some_iff_getElem.2 ⟨hp, k, hk, rfl, fun j hj => by simpa using hq j hj⟩
set_option maxRecDepth 100000 in
set_option maxHeartbeats 8000000 in
theorem rule_c {w : World} {g : Nat} {v : MkV} {rs : List (RulA × Rul)} {m : Mk} {lA : Option Addr} {lc : Nat} {l : List File} (hml : Ml w) (h : GrM w g v rs m lA lc l) (hb : GBd m l) (name : Str) (hnl : name.length ≤ 200) :
    Calls Tryz.prog 60 #[.pointer (some ⟨g, 0, none⟩), S name] w (RulRes w (ruleF m l name)) := by
  obtain ⟨vA, vc, rA, rc, pA, pc⟩ := v
  obtain ⟨w1, hw1⟩ : ∃ u, u = w.alloc (.cells #[.pointer (some ⟨g, 0, none⟩)] 81) := ⟨_, rfl⟩
  obtain ⟨w2, hw2⟩ : ∃ u, u = w1.alloc (.cells #[.slice none 0 0, .slice none 0 0, .slice none 0 0, .bool false] grpT) := ⟨_, rfl⟩
  go_enter Tryz.func60, Tryz.ntmps60
  go_upto_region 1 with fail
  rw [← hw1, ← hw2]
  obtain ⟨b2, hb2⟩ : ∃ b, b = w.heap.size := ⟨_, rfl⟩
  obtain ⟨b4, hb4⟩ : ∃ b, b = w.heap.size + 1 := ⟨_, rfl⟩
  rw [← hb4, ← hb2]
  have s1 : w1.heap.size = w.heap.size + 1 := by rw [hw1]; simp
  have x1 : Ext w w1 := by rw [hw1]; exact (Only.refl No w).alloc _
  have x2 : Ext w1 w2 := by rw [hw2]; exact (Only.refl No w1).alloc _
  have C2 : Cs w2 b2 81 #[.pointer (some ⟨g, 0, none⟩)] := (show Cs w1 b2 _ _ by rw [hw1, hb2]; exact Cs.new _ _ _).keep x2 id
  have C4 : Cs w2 b4 grpT zerG := by rw [hw2, hb4, ← s1]; exact Cs.new _ _ _
  have X2 : Hid (Ext w w2) := x1.then_ext x2
  have hg : g < w.heap.size := World.block_lt_of_cell? _ _ h.c0
  have HB : Hid (g < w.heap.size ∧ w.heap.size ≤ b2 ∧ w.heap.size ≤ b4 ∧ b2 ≠ b4) := by rw [hb2, hb4]; exact ⟨hg, by omega, by omega, by omega⟩
  have HC := Lib.hid (And.intro C2 C4)
  have HM := Lib.hid (h.ext X2.out)
  have HM0 := Lib.hid h
  have HL := Lib.hid (hml.ext X2.out)
  have HE := Lib.hid (explicit_c HM.out.mr hb.r (fun r hr => by have := (hb.t r hr).2.1; omega) name)
  clear hw1 hw2 hb2 hb4 s1 x1 x2 C2 C4 h hml hg
  have HGB := Lib.hid hb
  clear hb
  have k2 : w2.cell? ⟨b2, 0, none⟩ = some (.pointer (some ⟨g, 0, none⟩)) := HC.out.1.cell 0
  have c0 : w2.cell? ⟨g, 0, none⟩ = some (.slice vA m.vars.length vc) := HM.out.c0
  have c1 : w2.cell? ⟨g, 1, none⟩ = some (.slice rA m.rules.length rc) := HM.out.c1
  have c2 : w2.cell? ⟨g, 2, none⟩ = some (.slice pA m.phony.length pc) := HM.out.c2
  have hOf : ∀ u, Ext w2 u → ∀ x ∈ rs, ∀ stem : Str, stem.length ≤ 200 → Calls Tryz.prog 86 #[mkV ⟨vA, vc, rA, rc, pA, pc⟩ m, ruleV x, S name, S stem] u (OfRes u (groupF m x.2 name stem)) := fun u hu x hx stem hst => by
    have hm := HM.out.mr.ext hu
    obtain ⟨q1, q2, q3⟩ := hm.rr x hx
    obtain ⟨p1, p2, p3, p4, p5, p6, p7⟩ := HGB.out.t x.2 (by rw [← hm.rm]; exact List.mem_map_of_mem hx)
    exact of_c (HL.out.ext hu) hm q1 q2 q3 p1 p2 p3 p4 p5 p6 p7 name stem hnl hst HGB.out.p
  have HOf := Lib.hid hOf
  clear hOf
  rcases expl_idx m.rules name with ⟨hn, hi⟩ | ⟨k, r, hr, hs, hi⟩
  · have HR0 : Hid (patF m l name m.rules = ruleF m l name) := by rw [Hid, ruleF, hn]
    rw [hi] at HE
    clear hn hi
    go_wp2_with fail
    refine HE.out.mono ?_
    rintro e u3 ⟨rfl, hx⟩
    have X3 := Lib.hid hx
    have M3 := Lib.hid (HM.out.ext hx)
    have k3 : u3.cell? ⟨b2, 0, none⟩ = some (.pointer (some ⟨g, 0, none⟩)) := (HC.out.1.keep hx id).cell 0
    clear hx HE k2 c0 c1 c2
    have c0 : u3.cell? ⟨g, 0, none⟩ = some (.slice vA m.vars.length vc) := M3.out.c0
    have c1 : u3.cell? ⟨g, 1, none⟩ = some (.slice rA m.rules.length rc) := M3.out.c1
    have c2 : u3.cell? ⟨g, 2, none⟩ = some (.slice pA m.phony.length pc) := M3.out.c2
    go_wp2_with fail
    go_loopw [40] (fun i wr => ∃ k : Nat, k ≤ m.rules.length ∧ i = .int .i64 k ∧ patF m l name (m.rules.drop k) = ruleF m l name ∧ Ext u3 wr) (fun i _ => m.rules.length - (intOf i).toNat)
    case atStart => exact ⟨0, Nat.zero_le _, rfl, HR0.out, Only.refl _ _⟩
    case round =>
      clear k3 c0 c1 c2 HR0
      obtain ⟨k, hk, rfl, hP, hxr⟩ := hrel
      have HP := Lib.hid hP
      have X4 := Lib.hid hxr
      clear hP hxr
      by_cases hlt : k < m.rules.length
      · obtain ⟨b, o, ⟨⟨tA, tc, nA, nc, cA, cc⟩, r⟩, rfl, hx, hbl, d0, d1, d2⟩ := rules_get M3.out.mr.fr hlt
        have e0 : wr.cell? ⟨b, o + k * 3, none⟩ = some (.slice tA r.targets.length tc) := d0 _ X4.out
        have e1 : wr.cell? ⟨b, o + k * 3 + 1, none⟩ = some (.slice nA r.needs.length nc) := d1 _ X4.out
        have e2 : wr.cell? ⟨b, o + k * 3 + 2, none⟩ = some (.slice cA r.cmds.length cc) := d2 _ X4.out
        have hmem := Lib.hid (List.mem_of_getElem? hx)
        have hr : Hid (m.rules[k]? = some r) := by rw [Hid, ← M3.out.mr.rm, List.getElem?_map, hx]; rfl
        clear hx hbl d0 d1 d2
        go_upto_region 7 with fail
        obtain ⟨w8, hw8⟩ : ∃ u, u = wr.alloc (.cells #[.slice tA r.targets.length tc, .slice nA r.needs.length nc, .slice cA r.cmds.length cc] ruleT) := ⟨_, rfl⟩
        obtain ⟨b8, hb8⟩ : ∃ b, b = wr.heap.size := ⟨_, rfl⟩
        rw [← hw8, ← hb8]
        have C8 : Hid (Cs w8 b8 ruleT #[.slice tA r.targets.length tc, .slice nA r.needs.length nc, .slice cA r.cmds.length cc]) := by rw [hw8, hb8]; exact Cs.new _ _ _
        have X8 : Hid (Ext u3 w8) := by rw [hw8]; exact X4.out.then_ext ((Only.refl No _).alloc _)
        clear hw8 hb8 e0 e1 e2
        have HRr := Lib.hid (M3.out.mr.rr _ hmem.out)
        have HBr := Lib.hid (HGB.out.t r (List.mem_of_getElem? hr.out))
        have hrt := HBr.out.1
        have hrl := HGB.out.r
        obtain ⟨bb, oo, t0, rfl, ht, ct⟩ := strs_get (show SlR strF w8 tA r.targets.length r.targets from SlR.ext HRr.out.1 X8.out) (k := 0) (by omega)
        have ht0 : r.targets.headD [] = t0 := by
          cases htt : r.targets with
          | nil => rw [htt] at ht; cases ht
          | cons y ys => rw [htt] at ht; exact Option.some.inj ht
        have htl : t0.length ≤ 100 := HBr.out.2.2.2.2.1 t0 (List.mem_of_getElem? ht)
        have ct' : w8.cell? ⟨bb, oo, none⟩ = some (S t0) := ct (X.here w8 No)
        have d0 : w8.cell? ⟨b8, 0, none⟩ = some (.slice (some ⟨bb, oo, none⟩) r.targets.length tc) := C8.out.cell 0
        have HSt := Lib.hid (Stem_c t0 name (by omega) (by omega) (HL.out.ext (X3.out.then_ext X8.out)))
        have hsl := stemL_le t0 name
        have HPk : Hid (ruleF m l name = if (stemL t0 name).2 = false then patF m l name (m.rules.drop (k + 1)) else if (groupF m r name (stemL t0 name).1).needs.all (hereB m l) = true then some (groupF m r name (stemL t0 name).1) else patF m l name (m.rules.drop (k + 1))) := by
          rw [Hid, ← HP.out, drop_get hr.out, patF, ht0]
        generalize stemL t0 name = q at HSt HPk hsl
        obtain ⟨st, is⟩ := q
        dsimp only at HSt HPk hsl
        have HH0 := Lib.hid ht0
        clear ht ct ht0
        go_wp2_with fail
        refine HSt.out.mono ?_
        rintro e wq ⟨rfl, hx⟩
        have XQ := Lib.hid (X8.out.then_ext hx)
        have CQ := Lib.hid (C8.out.keep hx id)
        clear hx HSt ct' d0 X8 C8
        cases is with
        | false =>
          go_wp2_with fail
          go_roundw
          case rel => exact ⟨k + 1, by omega, by go_num, HPk.out.symm, XQ.out⟩
          case measure => simp [intOf]; omega
        | true =>
          have HPj : Hid (ruleF m l name = if (groupF m r name st).needs.all (hereB m l) = true then some (groupF m r name st) else patF m l name (m.rules.drop (k + 1))) := HPk.out
          have MQ := Lib.hid (M3.out.ext XQ.out)
          have HOq := Lib.hid (fun u (hu : Ext wq u) => HOf.out u (X3.out.then_ext (XQ.out.then_ext hu)) _ hmem.out st (by omega))
          dsimp only at HOq
          have yb : ∀ ξ : X wq No, ξ.v.cell? ⟨b2, 0, none⟩ = some (.pointer (some ⟨g, 0, none⟩)) := (HC.out.1.keep (X3.out.then_ext XQ.out) id).x id 0
          have y0 : ∀ ξ : X wq No, ξ.v.cell? ⟨g, 0, none⟩ = some (.slice vA m.vars.length vc) := fun ξ => (MQ.out.ext ξ.h).c0
          have y1 : ∀ ξ : X wq No, ξ.v.cell? ⟨g, 1, none⟩ = some (.slice (some ⟨b, o, none⟩) m.rules.length rc) := fun ξ => (MQ.out.ext ξ.h).c1
          have y2 : ∀ ξ : X wq No, ξ.v.cell? ⟨g, 2, none⟩ = some (.slice pA m.phony.length pc) := fun ξ => (MQ.out.ext ξ.h).c2
          have e0 : ∀ ξ : X wq No, ξ.v.cell? ⟨b8, 0, none⟩ = some (.slice (some ⟨bb, oo, none⟩) r.targets.length tc) := CQ.out.x id 0
          have e1 : ∀ ξ : X wq No, ξ.v.cell? ⟨b8, 1, none⟩ = some (.slice nA r.needs.length nc) := CQ.out.x id 1
          have e2 : ∀ ξ : X wq No, ξ.v.cell? ⟨b8, 2, none⟩ = some (.slice cA r.cmds.length cc) := CQ.out.x id 2
          clear HPk
          go_upto_region 9 with fail
          go_cut [11] from 55 to 62 (fun p u => ∃ (b9 : Nat) (a : RulA) (G : Grp), p = rpt b9 ∧ G = groupF m r name st ∧ Cs u b9 grpT #[.slice a.tA G.targets.length a.tc, .slice a.nA G.needs.length a.nc, .slice a.cA G.cmds.length a.cc, .bool G.phony] ∧ Fresh strF 9 wq u a.tA a.tc G.targets ∧ Fresh strF 9 wq u a.nA a.nc G.needs ∧ Fresh strF 9 wq u a.cA a.cc G.cmds ∧ Ext wq u ∧ wq.heap.size ≤ b9)
          case first =>
            refine Mix.wp_tree 10 [7, 8, 9] (Cl wq No) rfl (by kernel_rfl) (by kernel_rfl) (Cl.drew_ (X.here wq No)) ?_
            obtain ⟨μ0, hμ0⟩ : ∃ u, u = wq.drew := ⟨_, rfl⟩
            have Y : Hid (Ext wq μ0) := by rw [hμ0]; exact (Only.refl No wq).drew
            rw [← hμ0]
            clear hμ0
            (refine Mix.tree_quiet (i := 0) (by kernel_rfl) rfl rfl rfl rfl ?_; intro K hK; go_big_quiet_op; go_big_quiet_on); (refine Mix.tree_quiet (i := 1) (by kernel_rfl) rfl rfl rfl rfl ?_; intro K hK; go_big_quiet_op; go_big_quiet_on); (refine Mix.tree_quiet (i := 2) (by kernel_rfl) rfl rfl rfl rfl ?_; intro K hK; go_big_quiet_op; go_big_quiet_on); (refine Mix.tree_quiet (i := 3) (by kernel_rfl) rfl rfl rfl rfl ?_; intro K hK; go_big_quiet_op; go_big_quiet_on); (refine Mix.tree_quiet (i := 4) (by kernel_rfl) rfl rfl rfl rfl ?_; intro K hK; go_big_quiet_op; go_big_quiet_on); (refine Mix.tree_quiet (i := 5) (by kernel_rfl) rfl rfl rfl rfl ?_; intro K hK; go_big_quiet_op; go_big_quiet_on); (refine Mix.tree_quiet (i := 6) (by kernel_rfl) rfl rfl rfl rfl ?_; intro K hK; go_big_quiet_op; go_big_quiet_on)
            refine Mix.tree_two (i := 7) (j := 8) (by kernel_rfl) (by kernel_rfl) rfl rfl rfl rfl rfl rfl ?_ ?_
            ·
              intro K hK
              go_simp
              refine (HOq.out _ Y.out).mono ?_
              rintro e u1 ⟨a, rfl, f1, f2, f3, hx5⟩
              have HFr := Lib.hid (And.intro f1 (And.intro f2 f3))
              obtain ⟨G, hG⟩ : ∃ G, G = groupF m r name st := ⟨_, rfl⟩
              rw [← hG] at HFr ⊢
              have HG := Lib.hid hG
              have xs1 : Hid (Ext wq μ0) := Y.out
              have Y := Lib.hid (Y.out.then_ext hx5)
              refine ⟨_, rfl, hK _ _ (Cl.of Y.out) ?_⟩
              clear hK K hx5 f1 f2 f3 hG
              simp only [Act.put, List.setIfInBounds_toArray, List.set_cons_succ, List.set_cons_zero]
              refine Mix.tree_one (i := 8) (by kernel_rfl) (by kernel_rfl) rfl rfl rfl ?_
              intro K hK
              go_simp
              obtain ⟨va, hva⟩ : ∃ u, u = (u1).alloc (.cells #[.slice none 0 0, .slice none 0 0, .slice none 0 0, .bool false] grpT) := ⟨_, rfl⟩
              obtain ⟨b9, hb9⟩ : ∃ g, g = (u1).heap.size := ⟨_, rfl⟩
              have C : Hid (Cs va b9 grpT #[.slice none 0 0, .slice none 0 0, .slice none 0 0, .bool false]) := by rw [hva, hb9]; exact Cs.new _ _ _
              have B3 : Hid (wq.heap.size ≤ b9) := by rw [Hid, hb9]; exact Y.out.size
              have yva : Ext u1 va := by rw [hva]; exact (Only.refl No _).alloc _
              have HFr := Lib.hid (And.intro (HFr.out.1.on yva) (And.intro (HFr.out.2.1.on yva) (HFr.out.2.2.on yva)))
              have Y := Lib.hid (Y.out.then_ext yva)
              rw [← hva, ← hb9]
              refine hK _ _ (Cl.of Y.out) ?_
              clear hK K hva hb9 yva
              simp only [Act.put, List.setIfInBounds_toArray, List.set_cons_succ, List.set_cons_zero]
              refine Mix.tree_one (i := 9) (by kernel_rfl) (by kernel_rfl) rfl rfl rfl ?_
              intro K hK
              have k0 := C.out.cell 0
              have k1 := C.out.cell 1
              have k2 := C.out.cell 2
              have k3 := C.out.cell 3
              simp only [List.getElem?_toArray, List.getElem?_cons_succ, List.getElem?_cons_zero] at k0 k1 k2 k3
              have z0 := C.out.frozen 0
              have z1 := C.out.frozen 1
              have z2 := C.out.frozen 2
              have z3 := C.out.frozen 3
              go_simp
              obtain ⟨v9, hv9⟩ : ∃ u, u = ((((va).setCell ⟨b9, 0, none⟩ (.slice a.tA G.targets.length a.tc)).setCell ⟨b9, 1, none⟩ (.slice a.nA G.needs.length a.nc)).setCell ⟨b9, 2, none⟩ (.slice a.cA G.cmds.length a.cc)).setCell ⟨b9, 3, none⟩ (.bool G.phony) := ⟨_, rfl⟩
              have O9 : Only (fun q => q = b9) (va) v9 := by rw [hv9]; exact ((((Only.refl _ _).at_ 0 _).at_ 1 _).at_ 2 _).at_ 3 _
              have C9 : Cs v9 b9 grpT #[.slice a.tA G.targets.length a.tc, .slice a.nA G.needs.length a.nc, .slice a.cA G.cmds.length a.cc, .bool G.phony] := by rw [hv9]; exact (((C.out.set_ 0 _).set_ 1 _).set_ 2 _).set_ 3 _
              have y9 : Ext wq v9 := Y.out.trans O9 fun q hq e => by have e : q = b9 := e; have := B3.out; omega
              have F1 : Fresh strF 9 wq v9 a.tA a.tc G.targets := (HFr.out.1.from xs1.out).keep O9 y9 (own_ne_cs HFr.out.1.own C.out (by decide))
              have F2 : Fresh strF 9 wq v9 a.nA a.nc G.needs := (HFr.out.2.1.from xs1.out).keep O9 y9 (own_ne_cs HFr.out.2.1.own C.out (by decide))
              have F3 : Fresh strF 9 wq v9 a.cA a.cc G.cmds := (HFr.out.2.2.from xs1.out).keep O9 y9 (own_ne_cs HFr.out.2.2.own C.out (by decide))
              rw [← hv9]
              refine hK _ _ (Cl.of y9) ?_
              have hb3 := B3.out
              clear hK K hv9 k0 k1 k2 k3 z0 z1 z2 z3
              simp only [Act.put, List.setIfInBounds_toArray, List.set_cons_succ, List.set_cons_zero]
              refine Mix.tree_nil ?_
              go_wp2_with fail
              go_meet
              exact ⟨b9, a, G, rfl, HG.out, C9, F1, F2, F3, y9, hb3⟩
            ·
              intro K hK
              go_simp
              obtain ⟨va, hva⟩ : ∃ u, u = (μ0).alloc (.cells #[.slice none 0 0, .slice none 0 0, .slice none 0 0, .bool false] grpT) := ⟨_, rfl⟩
              obtain ⟨b9, hb9⟩ : ∃ g, g = (μ0).heap.size := ⟨_, rfl⟩
              have C : Hid (Cs va b9 grpT #[.slice none 0 0, .slice none 0 0, .slice none 0 0, .bool false]) := by rw [hva, hb9]; exact Cs.new _ _ _
              have B3 : Hid (wq.heap.size ≤ b9) := by rw [Hid, hb9]; exact Y.out.size
              have yva : Ext μ0 va := by rw [hva]; exact (Only.refl No _).alloc _
              have Y := Lib.hid (Y.out.then_ext yva)
              rw [← hva, ← hb9]
              refine hK _ _ (Cl.of Y.out) ?_
              clear hK K hva hb9 yva
              simp only [Act.put, List.setIfInBounds_toArray, List.set_cons_succ, List.set_cons_zero]
              refine Mix.tree_one (i := 7) (by kernel_rfl) (by kernel_rfl) rfl rfl rfl ?_
              intro K hK
              go_simp
              refine (HOq.out _ Y.out).mono ?_
              rintro e u1 ⟨a, rfl, f1, f2, f3, hx5⟩
              have HFr := Lib.hid (And.intro f1 (And.intro f2 f3))
              have C := Lib.hid (C.out.keep hx5 id)
              obtain ⟨G, hG⟩ : ∃ G, G = groupF m r name st := ⟨_, rfl⟩
              rw [← hG] at HFr ⊢
              have HG := Lib.hid hG
              have xs1 : Hid (Ext wq va) := Y.out
              have Y := Lib.hid (Y.out.then_ext hx5)
              refine ⟨_, rfl, hK _ _ (Cl.of Y.out) ?_⟩
              clear hK K hx5 f1 f2 f3 hG
              simp only [Act.put, List.setIfInBounds_toArray, List.set_cons_succ, List.set_cons_zero]
              refine Mix.tree_one (i := 9) (by kernel_rfl) (by kernel_rfl) rfl rfl rfl ?_
              intro K hK
              have k0 := C.out.cell 0
              have k1 := C.out.cell 1
              have k2 := C.out.cell 2
              have k3 := C.out.cell 3
              simp only [List.getElem?_toArray, List.getElem?_cons_succ, List.getElem?_cons_zero] at k0 k1 k2 k3
              have z0 := C.out.frozen 0
              have z1 := C.out.frozen 1
              have z2 := C.out.frozen 2
              have z3 := C.out.frozen 3
              go_simp
              obtain ⟨v9, hv9⟩ : ∃ u, u = ((((u1).setCell ⟨b9, 0, none⟩ (.slice a.tA G.targets.length a.tc)).setCell ⟨b9, 1, none⟩ (.slice a.nA G.needs.length a.nc)).setCell ⟨b9, 2, none⟩ (.slice a.cA G.cmds.length a.cc)).setCell ⟨b9, 3, none⟩ (.bool G.phony) := ⟨_, rfl⟩
              have O9 : Only (fun q => q = b9) (u1) v9 := by rw [hv9]; exact ((((Only.refl _ _).at_ 0 _).at_ 1 _).at_ 2 _).at_ 3 _
              have C9 : Cs v9 b9 grpT #[.slice a.tA G.targets.length a.tc, .slice a.nA G.needs.length a.nc, .slice a.cA G.cmds.length a.cc, .bool G.phony] := by rw [hv9]; exact (((C.out.set_ 0 _).set_ 1 _).set_ 2 _).set_ 3 _
              have y9 : Ext wq v9 := Y.out.trans O9 fun q hq e => by have e : q = b9 := e; have := B3.out; omega
              have F1 : Fresh strF 9 wq v9 a.tA a.tc G.targets := (HFr.out.1.from xs1.out).keep O9 y9 (own_ne_cs HFr.out.1.own C.out (by decide))
              have F2 : Fresh strF 9 wq v9 a.nA a.nc G.needs := (HFr.out.2.1.from xs1.out).keep O9 y9 (own_ne_cs HFr.out.2.1.own C.out (by decide))
              have F3 : Fresh strF 9 wq v9 a.cA a.cc G.cmds := (HFr.out.2.2.from xs1.out).keep O9 y9 (own_ne_cs HFr.out.2.2.own C.out (by decide))
              rw [← hv9]
              refine hK _ _ (Cl.of y9) ?_
              have hb3 := B3.out
              clear hK K hv9 k0 k1 k2 k3 z0 z1 z2 z3
              simp only [Act.put, List.setIfInBounds_toArray, List.set_cons_succ, List.set_cons_zero]
              refine Mix.tree_nil ?_
              go_wp2_with fail
              go_meet
              exact ⟨b9, a, G, rfl, HG.out, C9, F1, F2, F3, y9, hb3⟩
          case rest =>
            obtain ⟨b9, a, G, rfl, hG, hC9, f1, f2, f3, hx9, hb9⟩ := hcut
            have hnn : G.needs.length ≤ 3 := by rw [hG]; show (ndsOf r st).length ≤ 3; unfold ndsOf; rw [List.length_map]; exact HBr.out.2.2.1
            obtain ⟨z, hz⟩ : ∃ z, G.needs.any (fun n => !hereB m l n) = z := ⟨_, rfl⟩
            have HZ : Hid (G.needs.all (hereB m l) = !z) := by rw [Hid, List.all_eq_not_any_not, hz]
            have HAn := Lib.hid (AnyT_c (c := a.nc) (f2.row (by decide)) (by omega) (fun n => !hereB m l n) #[.pointer (some ⟨b2, 0, none⟩)] fun x u hu => rul1_c ((MQ.out.ext hx9).ext hu) HGB.out ((HC.out.1.keep (X3.out.then_ext (XQ.out.then_ext (hx9.then_ext hu))) id).cell 0) x)
            rw [hz] at HAn
            have HFr := Lib.hid (And.intro f1 (And.intro f2 f3))
            have C9 := Lib.hid hC9
            have X9 := Lib.hid hx9
            have HPz : Hid (ruleF m l name = if z = false then some G else patF m l name (m.rules.drop (k + 1))) := by
              rw [Hid, HPj.out, ← hG, HZ.out]
              cases z <;> rfl
            have dk : wc.cell? ⟨b9, 1, none⟩ = some (.slice a.nA G.needs.length a.nc) := C9.out.cell 1
            have hmf : ∀ (fn : Fn) (first cap : Array Value) (w : World), (Instr.makeFunc fn first cap).run Tryz.prog w = .ok (.func fn first cap) w := fun _ _ _ _ => rfl
            clear hG hC9 f1 f2 f3 hx9 hz HZ HPj yb y0 y1 y2 e0 e1 e2 HOq
            go_wp2_with fail
            refine HAn.out.mono ?_
            rintro e u7 ⟨rfl, hx7⟩
            have X7 := Lib.hid (X9.out.then_ext hx7)
            have C7 := Lib.hid (C9.out.keep hx7 id)
            have HF7 := Lib.hid (And.intro (HFr.out.1.on hx7) (And.intro (HFr.out.2.1.on hx7) (HFr.out.2.2.on hx7)))
            clear hx7 HAn dk C9 HFr X9
            cases z with
            | true =>
              go_wp2_with fail
              go_roundw
              case rel => exact ⟨k + 1, by omega, by go_num, HPz.out.symm, XQ.out.then_ext X7.out⟩
              case measure => simp [intOf]; omega
            | false =>
              have D4 := Lib.hid (HC.out.2.keep (X3.out.then_ext (XQ.out.then_ext X7.out)) id)
              have k0 : u7.cell? ⟨b4, 0, none⟩ = some (.slice none 0 0) := D4.out.cell 0
              have k1 : u7.cell? ⟨b4, 1, none⟩ = some (.slice none 0 0) := D4.out.cell 1
              have k2 : u7.cell? ⟨b4, 2, none⟩ = some (.slice none 0 0) := D4.out.cell 2
              have k3 : u7.cell? ⟨b4, 3, none⟩ = some (.bool false) := D4.out.cell 3
              have q0 : u7.cell? ⟨b9, 0, none⟩ = some (.slice a.tA G.targets.length a.tc) := C7.out.cell 0
              have q1 : u7.cell? ⟨b9, 1, none⟩ = some (.slice a.nA G.needs.length a.nc) := C7.out.cell 1
              have q2 : u7.cell? ⟨b9, 2, none⟩ = some (.slice a.cA G.cmds.length a.cc) := C7.out.cell 2
              have q3 : u7.cell? ⟨b9, 3, none⟩ = some (.bool G.phony) := C7.out.cell 3
              have z0 := D4.out.frozen 0
              have z1 := D4.out.frozen 1
              have z2 := D4.out.frozen 2
              have z3 := D4.out.frozen 3
              have HO : Hid (∀ a b c d, Only (fun b => b = b4) u7 ((((u7.setCell ⟨b4, 0, none⟩ a).setCell ⟨b4, 1, none⟩ b).setCell ⟨b4, 2, none⟩ c).setCell ⟨b4, 3, none⟩ d)) := fun a b c d => ((((Only.refl _ _).at_ 0 a).at_ 1 b).at_ 2 c).at_ 3 d
              have HS : Hid (∀ a b c d, Cs ((((u7.setCell ⟨b4, 0, none⟩ a).setCell ⟨b4, 1, none⟩ b).setCell ⟨b4, 2, none⟩ c).setCell ⟨b4, 3, none⟩ d) b4 grpT #[a, b, c, d]) := fun a b c d => (((D4.out.set_ 0 a).set_ 1 b).set_ 2 c).set_ 3 d
              have HPg : Hid (ruleF m l name = some G) := HPz.out
              clear HPz
              go_wp2_with fail
              have hO := HO.out (.slice a.tA G.targets.length a.tc) (.slice a.nA G.needs.length a.nc) (.slice a.cA G.cmds.length a.cc) (.bool G.phony)
              have hl := load_grp (HS.out (.slice a.tA G.targets.length a.tc) (.slice a.nA G.needs.length a.nc) (.slice a.cA G.cmds.length a.cc) (.bool G.phony))
              have xw : Ext w wq := X2.out.then_ext (X3.out.then_ext XQ.out)
              have x6 := (xw.then_ext X7.out).trans hO fun q hq e => by have e : q = b4 := e; have := HB.out; omega
              refine bodyPost_cell (p := 4) (u := 5) (ty := grpT) (ad := ⟨b4, 0, none⟩) rfl rfl rfl hl ?_
              rw [HPg.out]
              obtain ⟨f1, f2, f3⟩ := HF7.out
              exact ⟨a, rfl, (f1.from xw).keep hO x6 (own_ne_cs f1.own D4.out (by decide)), (f2.from xw).keep hO x6 (own_ne_cs f2.own D4.out (by decide)), (f3.from xw).keep hO x6 (own_ne_cs f3.own D4.out (by decide)), x6⟩
      · obtain rfl : k = m.rules.length := by omega
        have HR : Hid (ruleF m l name = none) := by rw [Hid, ← HP.out, List.drop_of_length_le (Nat.le_refl _)]; rfl
        have D4 := Lib.hid (HC.out.2.keep (X3.out.then_ext X4.out) id)
        have k0 : wr.cell? ⟨b4, 0, none⟩ = some (.slice none 0 0) := D4.out.cell 0
        have k1 : wr.cell? ⟨b4, 1, none⟩ = some (.slice none 0 0) := D4.out.cell 1
        have k2 : wr.cell? ⟨b4, 2, none⟩ = some (.slice none 0 0) := D4.out.cell 2
        have k3 : wr.cell? ⟨b4, 3, none⟩ = some (.bool false) := D4.out.cell 3
        have z0 := D4.out.frozen 0
        have z1 := D4.out.frozen 1
        have z2 := D4.out.frozen 2
        have z3 := D4.out.frozen 3
        have HO : Hid (∀ a b c d, Only (fun b => b = b4) wr ((((wr.setCell ⟨b4, 0, none⟩ a).setCell ⟨b4, 1, none⟩ b).setCell ⟨b4, 2, none⟩ c).setCell ⟨b4, 3, none⟩ d)) := fun a b c d => ((((Only.refl _ _).at_ 0 a).at_ 1 b).at_ 2 c).at_ 3 d
        have HS : Hid (∀ a b c d, Cs ((((wr.setCell ⟨b4, 0, none⟩ a).setCell ⟨b4, 1, none⟩ b).setCell ⟨b4, 2, none⟩ c).setCell ⟨b4, 3, none⟩ d) b4 grpT #[a, b, c, d]) := fun a b c d => (((D4.out.set_ 0 a).set_ 1 b).set_ 2 c).set_ 3 d
        have hg0 : ∀ w : World, (Instr.build grpT #[]).run Tryz.prog w = .ok (.agg #[.slice none 0 0, .slice none 0 0, .slice none 0 0, .bool false]) w := fun w => run_build w grpT _ _ (by kernel_rfl)
        go_wp2_with fail
        refine bodyPost_cell (p := 4) (u := 5) (ty := grpT) (ad := ⟨b4, 0, none⟩) rfl rfl rfl (load_grp (HS.out _ _ _ _)) ?_
        rw [HR.out]
        exact ⟨rfl, (X2.out.then_ext (X3.out.then_ext X4.out)).trans (HO.out _ _ _ _) fun q hq e => by have e : q = b4 := e; have := HB.out; omega⟩
  · have hk : k < m.rules.length := (List.getElem?_eq_some_iff.1 hr).1
    obtain ⟨b, o, x, rfl, hx, hbl, d0, d1, d2⟩ := rules_get HM0.out.mr.fr hk
    have hxr : x.2 = r := by
      have h1 := hr
      rw [← HM0.out.mr.rm, List.getElem?_map, hx] at h1
      exact Option.some.inj h1
    have HR : Hid (ruleF m l name = some (groupF m x.2 name [])) := by rw [Hid, ruleF, hs, hxr]
    have HOx := Lib.hid (fun u hu => HOf.out u hu x (List.mem_of_getElem? hx) [] (Nat.zero_le _))
    rw [hi] at HE
    clear hi hr hs hx hxr
    go_wp2_with fail
    refine HE.out.mono ?_
    rintro e u3 ⟨rfl, hx⟩
    have X3 := Lib.hid hx
    clear hx HE
    obtain ⟨F, hF⟩ : ∃ F : Nat → Prop, F = fun q => q = b4 := ⟨_, rfl⟩
    have fb : ¬ F b := by rw [hF]; intro e; have e : b = b4 := e; have := HB.out; omega
    have fg : ¬ F g := by rw [hF]; intro e; have e : g = b4 := e; have := HB.out; omega
    have f2 : ¬ F b2 := by rw [hF]; exact HB.out.2.2.2
    have y0 : ∀ ξ : X u3 F, ξ.v.cell? ⟨g, 0, none⟩ = some (.slice vA m.vars.length vc) := fun ξ => by
      have M3 := HM.out.ext X3.out
      exact (ξ.h.cell (p := ⟨g, 0, none⟩) (World.block_lt_of_cell? _ _ M3.c0) fg).trans M3.c0
    have y1 : ∀ ξ : X u3 F, ξ.v.cell? ⟨g, 1, none⟩ = some (.slice (some ⟨b, o, none⟩) m.rules.length rc) := fun ξ => by
      have M3 := HM.out.ext X3.out
      exact (ξ.h.cell (p := ⟨g, 1, none⟩) (World.block_lt_of_cell? _ _ M3.c1) fg).trans M3.c1
    have y2 : ∀ ξ : X u3 F, ξ.v.cell? ⟨g, 2, none⟩ = some (.slice pA m.phony.length pc) := fun ξ => by
      have M3 := HM.out.ext X3.out
      exact (ξ.h.cell (p := ⟨g, 2, none⟩) (World.block_lt_of_cell? _ _ M3.c2) fg).trans M3.c2
    have yb : ∀ ξ : X u3 F, ξ.v.cell? ⟨b2, 0, none⟩ = some (.pointer (some ⟨g, 0, none⟩)) := (HC.out.1.keep X3.out id).x f2 0
    have e0 : ∀ ξ : X u3 F, ξ.v.cell? ⟨b, o + k * 3, none⟩ = some (.slice x.1.tA x.2.targets.length x.1.tc) := fun ξ => (ξ.h.cell (p := ⟨b, o + k * 3, none⟩) (Nat.lt_of_lt_of_le hbl (X2.out.then_ext X3.out).size) fb).trans (d0 _ (X2.out.then_ext X3.out))
    have e1 : ∀ ξ : X u3 F, ξ.v.cell? ⟨b, o + k * 3 + 1, none⟩ = some (.slice x.1.nA x.2.needs.length x.1.nc) := fun ξ => (ξ.h.cell (p := ⟨b, o + k * 3 + 1, none⟩) (Nat.lt_of_lt_of_le hbl (X2.out.then_ext X3.out).size) fb).trans (d1 _ (X2.out.then_ext X3.out))
    have e2 : ∀ ξ : X u3 F, ξ.v.cell? ⟨b, o + k * 3 + 2, none⟩ = some (.slice x.1.cA x.2.cmds.length x.1.cc) := fun ξ => (ξ.h.cell (p := ⟨b, o + k * 3 + 2, none⟩) (Nat.lt_of_lt_of_le hbl (X2.out.then_ext X3.out).size) fb).trans (d2 _ (X2.out.then_ext X3.out))
    have HF := Lib.hid hF
    clear d0 d1 d2 c0 c1 c2 k2 hF fb fg f2
    obtain ⟨μ, hμ⟩ : ∃ u, u = u3.drew := ⟨_, rfl⟩
    have xμ : Hid (Ext u3 μ) := by rw [hμ]; exact (Only.refl No _).drew
    go_upto_region 3 with fail
    refine Mix.wp_draw [13, 14] 100 (Cl u3 F) (by kernel_rfl) (by kernel_rfl) (Cl.of (Only.refl _ _).drew) ?_
    rw [← hμ]
    clear hμ
    (repeat' (refine Mix.lex_quiet0 rfl rfl rfl ?_; intro K hK; go_big_quiet_op; go_big_quiet_on))
    ((first | refine Mix.lex_goes0 rfl rfl ?_ | refine Mix.lex_goesG rfl rfl rfl (by with_reducible rfl) rfl ?_); intro K hK; go_simp)
    refine (HOx.out _ (X3.out.then_ext xμ.out)).mono ?_
    rintro e u5 ⟨a, rfl, f1, f2, f3, hx5⟩
    have X5 := Lib.hid (xμ.out.then_ext hx5)
    have HFr := Lib.hid (And.intro f1 (And.intro f2 f3))
    obtain ⟨G, hG⟩ : ∃ G, G = groupF m x.2 name [] := ⟨_, rfl⟩
    rw [← hG] at HR HFr ⊢
    have C5 := Lib.hid ((HC.out.2.keep X3.out id).keep X5.out id)
    refine ⟨_, rfl, hK _ _ (fun _ => Cl.of (X5.out.weak fun b _ e => e.elim)) ?_⟩
    clear hK K f1 f2 f3 hx5 hG
    simp only [Act.put, List.setIfInBounds_toArray, List.set_cons_succ, List.set_cons_zero]
    have k0 : u5.cell? ⟨b4, 0, none⟩ = some (.slice none 0 0) := C5.out.cell 0
    have k1 : u5.cell? ⟨b4, 1, none⟩ = some (.slice none 0 0) := C5.out.cell 1
    have k2 : u5.cell? ⟨b4, 2, none⟩ = some (.slice none 0 0) := C5.out.cell 2
    have k3 : u5.cell? ⟨b4, 3, none⟩ = some (.bool false) := C5.out.cell 3
    have z0 := C5.out.frozen 0
    have z1 := C5.out.frozen 1
    have z2 := C5.out.frozen 2
    have z3 := C5.out.frozen 3
    ((first | refine Mix.lex_goes0 rfl rfl ?_ | refine Mix.lex_goesG rfl rfl rfl (by with_reducible rfl) rfl ?_); intro K hK; go_simp)
    obtain ⟨v6, hv6⟩ : ∃ u, u = ((((u5).setCell ⟨b4, 0, none⟩ (.slice a.tA G.targets.length a.tc)).setCell ⟨b4, 1, none⟩ (.slice a.nA G.needs.length a.nc)).setCell ⟨b4, 2, none⟩ (.slice a.cA G.cmds.length a.cc)).setCell ⟨b4, 3, none⟩ (.bool G.phony) := ⟨_, rfl⟩
    have O6 : Only (fun q => q = b4) u5 v6 := by rw [hv6]; exact ((((Only.refl _ _).at_ 0 _).at_ 1 _).at_ 2 _).at_ 3 _
    have C6 : Cs v6 b4 grpT #[.slice a.tA G.targets.length a.tc, .slice a.nA G.needs.length a.nc, .slice a.cA G.cmds.length a.cc, .bool G.phony] := by rw [hv6]; exact (((C5.out.set_ 0 _).set_ 1 _).set_ 2 _).set_ 3 _
    have xw : Ext w u5 := X2.out.then_ext (X3.out.then_ext X5.out)
    have x6 : Ext w v6 := xw.trans O6 fun q hq e => by have e : q = b4 := e; have := HB.out; omega
    have E6 : Hid (RulRes w (some G) (.returned (.tuple #[grpV (a, G), .bool true])) v6) := by
      obtain ⟨f1, f2, f3⟩ := HFr.out
      have hxx : Ext w μ := X2.out.then_ext (X3.out.then_ext xμ.out)
      exact ⟨a, rfl, (f1.from hxx).keep O6 x6 (own_ne_cs f1.own C5.out (by decide)), (f2.from hxx).keep O6 x6 (own_ne_cs f2.own C5.out (by decide)), (f3.from hxx).keep O6 x6 (own_ne_cs f3.own C5.out (by decide)), x6⟩
    have Y6 : Hid (Only F u3 v6) := by
      rw [Hid, HF.out]
      exact (X5.out.weak fun b _ e => e.elim).trans O6 fun _ _ e => e
    rw [← hv6]
    refine hK _ _ (fun _ => Cl.of Y6.out) ?_
    have HC6 := Lib.hid C6
    clear hK K hv6 k0 k1 k2 k3 z0 z1 z2 z3 O6 C6 xw x6
    simp only [Act.put, List.setIfInBounds_toArray, List.set_cons_succ, List.set_cons_zero]
    (repeat' (refine Mix.lex_quiet0 rfl rfl rfl ?_; intro K hK; go_big_quiet_op; go_big_quiet_on))
    refine Mix.lex_nil ?_
    go_wp2_with fail
    refine bodyPost_cell (p := 4) (u := 5) (ty := grpT) (ad := ⟨b4, 0, none⟩) rfl rfl rfl (load_grp HC6.out) ?_
    rw [HR.out]
    exact E6.out
abbrev grwT : TypeId := 83
structure GrwA where
  wA : Option Addr
  wc : Nat
  dA : Option Addr
  dc : Nat
  oA : Option Addr
  oc : Nat
def Gfp (g : Nat) (a : GrwA) (wn dn on : Nat) : Nat → Prop := fun b => b = g ∨ (Value.slice a.wA wn a.wc).ownBlock = some b ∨ (Value.slice a.dA dn a.dc).ownBlock = some b ∨ (Value.slice a.oA on a.oc).ownBlock = some b
def RbS (F : Nat → Prop) (u : World) (A : Option Addr) (xs : List Str) : Prop := ∀ v, Only F u v → SlR strF v A xs.length xs
section
variable {F F' : Nat → Prop} {u u' : World} {A : Option Addr} {xs : List Str} {c : Nat}
theorem RbS.step (h : RbS F u A xs) (hx : Only F u u') (hf : ∀ b, F' b → F b ∨ u.heap.size ≤ b) : RbS F' u' A xs := fun v hv => h v (hx.trans hv fun b hb e => by
  rcases hf b e with h1 | h1
  · exact h1
  · omega)
theorem RbS.ext (h : RbS F u A xs) (hx : Ext u u') : RbS F u' A xs := h.step (Only.any hx) fun _ e => .inl e
theorem RbS.here (h : RbS F u A xs) : SlR strF u A xs.length xs := h u (Only.refl _ _)
theorem RbS.fresh (h : Fresh strF 9 u u' A c xs) (hF : ∀ b, F b → b < u.heap.size) : RbS F u' A xs := fun v hv => SlR.of_own (T := strF) (by decide) (own_keep h.own hv fun g hg e => by
  have := h.new g hg
  have := hF g e
  omega)
end
structure Gw (w u : World) (g : Nat) (v : MkV) (m : Mk) (lA : Option Addr) (lc ll : Nat) (a : GrwA) (way done : List Str) (gs : List (RulA × Grp)) : Prop where
  cs : Cs u g grwT #[.slice v.vA m.vars.length v.vc, .slice v.rA m.rules.length v.rc, .slice v.pA m.phony.length v.pc, .slice lA ll lc, .slice a.wA way.length a.wc, .slice a.dA done.length a.dc, .slice a.oA gs.length a.oc]
  fw : Fresh strF 9 w u a.wA a.wc way
  fd : Fresh strF 9 w u a.dA a.dc done
  fo : Fresh grpF grpT w u a.oA a.oc gs
  hg : w.heap.size ≤ g
  wd : ∀ b, (Value.slice a.wA way.length a.wc).ownBlock = some b → (Value.slice a.dA done.length a.dc).ownBlock ≠ some b
  rw : ∀ x ∈ gs, RbS (Gfp g a way.length done.length gs.length) u x.1.tA x.2.targets ∧ RbS (Gfp g a way.length done.length gs.length) u x.1.nA x.2.needs ∧ RbS (Gfp g a way.length done.length gs.length) u x.1.cA x.2.cmds
section
variable {w u u' : World} {g : Nat} {v : MkV} {m : Mk} {lA : Option Addr} {lc ll : Nat} {a : GrwA} {way done : List Str} {gs : List (RulA × Grp)}
theorem Gw.x (h : Gw w u g v m lA lc ll a way done gs) : Ext w u := h.fw.ext
theorem Gw.ext (h : Gw w u g v m lA lc ll a way done gs) (hx : Ext u u') : Gw w u' g v m lA lc ll a way done gs :=
  ⟨h.cs.keep hx id, h.fw.on hx, h.fd.on hx, h.fo.on hx, h.hg, h.wd, fun x hm => ⟨(h.rw x hm).1.ext hx, (h.rw x hm).2.1.ext hx, (h.rw x hm).2.2.ext hx⟩⟩
theorem Gw.growW (h : Gw w u g v m lA lc ll a way done gs) {A' : Option Addr} {c' : Nat} {w5 : World} {ts : List Str}
    (hown : w5.ownsRow 0 9 1 (.slice A' (way.length + ts.length : Nat) c') (way.length + ts.length) (way.flatMap strF.enc ++ ts.flatMap strF.enc)) (hg : u.grownBy w5 (Value.slice a.wA way.length a.wc).ownBlock)
    (hb : (Value.slice A' (way.length + ts.length : Nat) c').ownBlock = (Value.slice a.wA way.length a.wc).ownBlock ∨ (Value.slice A' (way.length + ts.length : Nat) c').ownBlock = some u.heap.size) :
    Gw w (w5.setCell ⟨g, 4, none⟩ (.slice A' (way.length + ts.length : Nat) c')) g v m lA lc ll { a with wA := A', wc := c' } (way ++ ts) done gs := by
  have O5 : Only (fun q => (Value.slice a.wA way.length a.wc).ownBlock = some q) u w5 := (Only.refl _ _).grown hg fun q e => .inr e
  have F5 := h.fw.grow (ys := ts) rfl hown hg hb
  have D5 := h.fd.keep O5 F5.ext (fun q h1 h2 => h.wd q h2 h1)
  have G5 := h.fo.keep O5 F5.ext (fun q h1 h2 => own_ne_own h.fw.own h.fo.own (by decide) q h2 h1)
  have c5 := h.cs.keep O5 (fun e => own_ne_cs h.fw.own h.cs (by decide) _ e rfl)
  have O6 : Only (fun q => q = g) w5 (w5.setCell ⟨g, 4, none⟩ (.slice A' (way.length + ts.length : Nat) c')) := (Only.refl _ _).at_ 4 _
  have E6 : Ext w (w5.setCell ⟨g, 4, none⟩ (.slice A' (way.length + ts.length : Nat) c')) := F5.ext.trans O6 fun q hq e => by have e : q = g := e; have := h.hg; omega
  have OA : Only (Gfp g a way.length done.length gs.length) u (w5.setCell ⟨g, 4, none⟩ (.slice A' (way.length + ts.length : Nat) c')) := (O5.weak fun q _ e => .inr (.inl e)).trans O6 fun q _ e => .inl e
  have hst : ∀ q, Gfp g { a with wA := A', wc := c' } (way ++ ts).length done.length gs.length q → Gfp g a way.length done.length gs.length q ∨ u.heap.size ≤ q := by
    rintro q (e | e | e | e)
    · exact .inl (.inl e)
    · rw [List.length_append] at e
      rcases hb with hb | hb
      · exact .inl (.inr (.inl (hb.symm.trans e)))
      · have h3 : some u.heap.size = some q := hb.symm.trans e
        injection h3 with h3
        exact .inr (by omega)
    · exact .inl (.inr (.inr (.inl e)))
    · exact .inl (.inr (.inr (.inr e)))
  refine ⟨?_, F5.keep O6 E6 (own_ne_cs F5.own c5 (by decide)), D5.keep O6 E6 (own_ne_cs D5.own c5 (by decide)), G5.keep O6 E6 (own_ne_cs G5.own c5 (by decide)), h.hg, fun q h1 h2 => ?_, fun x hm => ⟨(h.rw x hm).1.step OA hst, (h.rw x hm).2.1.step OA hst, (h.rw x hm).2.2.step OA hst⟩⟩
  · have := c5.set_ 4 (.slice A' (way.length + ts.length : Nat) c')
    rw [List.length_append]
    exact this
  · rw [List.length_append] at h1
    rcases hb with hb | hb
    · exact h.wd q (hb.symm.trans h1) h2
    · have h3 : some u.heap.size = some q := hb.symm.trans h1
      injection h3 with h3
      obtain ⟨cur, hc⟩ := own_cs h.fd.own h2
      have := hc.lt
      omega
theorem Gw.growD (h : Gw w u g v m lA lc ll a way done gs) {A' : Option Addr} {c' : Nat} {w5 : World} {ts : List Str}
    (hown : w5.ownsRow 0 9 1 (.slice A' (done.length + ts.length : Nat) c') (done.length + ts.length) (done.flatMap strF.enc ++ ts.flatMap strF.enc)) (hg : u.grownBy w5 (Value.slice a.dA done.length a.dc).ownBlock)
    (hb : (Value.slice A' (done.length + ts.length : Nat) c').ownBlock = (Value.slice a.dA done.length a.dc).ownBlock ∨ (Value.slice A' (done.length + ts.length : Nat) c').ownBlock = some u.heap.size) :
    Gw w (w5.setCell ⟨g, 5, none⟩ (.slice A' (done.length + ts.length : Nat) c')) g v m lA lc ll { a with dA := A', dc := c' } way (done ++ ts) gs := by
  have O5 : Only (fun q => (Value.slice a.dA done.length a.dc).ownBlock = some q) u w5 := (Only.refl _ _).grown hg fun q e => .inr e
  have F5 := h.fd.grow (ys := ts) rfl hown hg hb
  have D5 := h.fw.keep O5 F5.ext (fun q h1 h2 => h.wd q h1 h2)
  have G5 := h.fo.keep O5 F5.ext (fun q h1 h2 => own_ne_own h.fd.own h.fo.own (by decide) q h2 h1)
  have c5 := h.cs.keep O5 (fun e => own_ne_cs h.fd.own h.cs (by decide) _ e rfl)
  have O6 : Only (fun q => q = g) w5 (w5.setCell ⟨g, 5, none⟩ (.slice A' (done.length + ts.length : Nat) c')) := (Only.refl _ _).at_ 5 _
  have E6 : Ext w (w5.setCell ⟨g, 5, none⟩ (.slice A' (done.length + ts.length : Nat) c')) := F5.ext.trans O6 fun q hq e => by have e : q = g := e; have := h.hg; omega
  have OA : Only (Gfp g a way.length done.length gs.length) u (w5.setCell ⟨g, 5, none⟩ (.slice A' (done.length + ts.length : Nat) c')) := (O5.weak fun q _ e => .inr (.inr (.inl e))).trans O6 fun q _ e => .inl e
  have hst : ∀ q, Gfp g { a with dA := A', dc := c' } way.length (done ++ ts).length gs.length q → Gfp g a way.length done.length gs.length q ∨ u.heap.size ≤ q := by
    rintro q (e | e | e | e)
    · exact .inl (.inl e)
    · exact .inl (.inr (.inl e))
    · rw [List.length_append] at e
      rcases hb with hb | hb
      · exact .inl (.inr (.inr (.inl (hb.symm.trans e))))
      · have h3 : some u.heap.size = some q := hb.symm.trans e
        injection h3 with h3
        exact .inr (by omega)
    · exact .inl (.inr (.inr (.inr e)))
  refine ⟨?_, D5.keep O6 E6 (own_ne_cs D5.own c5 (by decide)), F5.keep O6 E6 (own_ne_cs F5.own c5 (by decide)), G5.keep O6 E6 (own_ne_cs G5.own c5 (by decide)), h.hg, fun q h1 h2 => ?_, fun x hm => ⟨(h.rw x hm).1.step OA hst, (h.rw x hm).2.1.step OA hst, (h.rw x hm).2.2.step OA hst⟩⟩
  · have := c5.set_ 5 (.slice A' (done.length + ts.length : Nat) c')
    rw [List.length_append]
    exact this
  · rw [List.length_append] at h2
    rcases hb with hb | hb
    · exact h.wd q h1 (hb.symm.trans h2)
    · have h3 : some u.heap.size = some q := hb.symm.trans h2
      injection h3 with h3
      obtain ⟨cur, hc⟩ := own_cs h.fw.own h1
      have := hc.lt
      omega
theorem Gw.growO (h : Gw w u g v m lA lc ll a way done gs) {A' : Option Addr} {c' : Nat} {w5 : World} {t : RulA × Grp}
    (hown : w5.ownsRow 0 grpT 4 (.slice A' (gs.length + 1 : Nat) c') (gs.length + 1) (gs.flatMap grpF.enc ++ [t].flatMap grpF.enc)) (hg : u.grownBy w5 (Value.slice a.oA gs.length a.oc).ownBlock)
    (hb : (Value.slice A' (gs.length + 1 : Nat) c').ownBlock = (Value.slice a.oA gs.length a.oc).ownBlock ∨ (Value.slice A' (gs.length + 1 : Nat) c').ownBlock = some u.heap.size)
    (ht : RbS (Gfp g a way.length done.length gs.length) u t.1.tA t.2.targets ∧ RbS (Gfp g a way.length done.length gs.length) u t.1.nA t.2.needs ∧ RbS (Gfp g a way.length done.length gs.length) u t.1.cA t.2.cmds) :
    Gw w (w5.setCell ⟨g, 6, none⟩ (.slice A' (gs.length + 1 : Nat) c')) g v m lA lc ll { a with oA := A', oc := c' } way done (gs ++ [t]) := by
  have O5 : Only (fun q => (Value.slice a.oA gs.length a.oc).ownBlock = some q) u w5 := (Only.refl _ _).grown hg fun q e => .inr e
  have F5 := h.fo.grow (ys := [t]) rfl hown hg hb
  have D5 := h.fw.keep O5 F5.ext (fun q h1 h2 => own_ne_own h.fw.own h.fo.own (by decide) q h1 h2)
  have G5 := h.fd.keep O5 F5.ext (fun q h1 h2 => own_ne_own h.fd.own h.fo.own (by decide) q h1 h2)
  have c5 := h.cs.keep O5 (fun e => own_ne_cs h.fo.own h.cs (by decide) _ e rfl)
  have O6 : Only (fun q => q = g) w5 (w5.setCell ⟨g, 6, none⟩ (.slice A' (gs.length + 1 : Nat) c')) := (Only.refl _ _).at_ 6 _
  have E6 : Ext w (w5.setCell ⟨g, 6, none⟩ (.slice A' (gs.length + 1 : Nat) c')) := F5.ext.trans O6 fun q hq e => by have e : q = g := e; have := h.hg; omega
  have OA : Only (Gfp g a way.length done.length gs.length) u (w5.setCell ⟨g, 6, none⟩ (.slice A' (gs.length + 1 : Nat) c')) := (O5.weak fun q _ e => .inr (.inr (.inr e))).trans O6 fun q _ e => .inl e
  have hst : ∀ q, Gfp g { a with oA := A', oc := c' } way.length done.length (gs ++ [t]).length q → Gfp g a way.length done.length gs.length q ∨ u.heap.size ≤ q := by
    rintro q (e | e | e | e)
    · exact .inl (.inl e)
    · exact .inl (.inr (.inl e))
    · exact .inl (.inr (.inr (.inl e)))
    · rw [List.length_append] at e
      rcases hb with hb | hb
      · exact .inl (.inr (.inr (.inr (hb.symm.trans e))))
      · have h3 : some u.heap.size = some q := hb.symm.trans e
        injection h3 with h3
        exact .inr (by omega)
  have hall : ∀ x ∈ gs ++ [t], RbS (Gfp g a way.length done.length gs.length) u x.1.tA x.2.targets ∧ RbS (Gfp g a way.length done.length gs.length) u x.1.nA x.2.needs ∧ RbS (Gfp g a way.length done.length gs.length) u x.1.cA x.2.cmds := fun x hm => by
    rcases List.mem_append.1 hm with hm | hm
    · exact h.rw x hm
    · simp at hm; rw [hm]; exact ht
  refine ⟨?_, D5.keep O6 E6 (own_ne_cs D5.own c5 (by decide)), G5.keep O6 E6 (own_ne_cs G5.own c5 (by decide)), F5.keep O6 E6 (own_ne_cs F5.own c5 (by decide)), h.hg, h.wd, fun x hm => ⟨(hall x hm).1.step OA hst, (hall x hm).2.1.step OA hst, (hall x hm).2.2.step OA hst⟩⟩
  have := c5.set_ 6 (.slice A' (gs.length + 1 : Nat) c')
  rw [List.length_append]
  exact this
theorem own_take {w : World} {B : Nat} {e : TypeId} {A : Option Addr} {n c k : Nat} {xs : List Value} (h : w.ownsRow B e 1 (.slice A n c) n xs) (hk : k ≤ n) : w.ownsRow B e 1 (.slice A k c) k (xs.take k) := by
  obtain ⟨hl, h⟩ := h
  refine ⟨by rw [List.length_take]; omega, ?_⟩
  rcases h with ⟨h1, h2⟩ | ⟨g, cap, cur, h1, h3, h4, h5, h6, h7, h8⟩
  · injection h1 with h1 _ h3
    subst h1
    obtain rfl : k = 0 := by omega
    have h9 : c = 0 := by omega
    subst h9
    exact .inl ⟨rfl, rfl⟩
  · injection h1 with h1 _ h2
    subst h1
    have h9 : c = cap := by omega
    subst h9
    refine .inr ⟨g, c, cur, rfl, h3, h4, by omega, h6, h7, ?_⟩
    rw [← h8, List.take_take]
    congr 1
    omega
theorem Gw.cutW {k : Nat} (h : Gw w u g v m lA lc ll a way done gs) (hk : k ≤ way.length) : Gw w (u.setCell ⟨g, 4, none⟩ (.slice a.wA k a.wc)) g v m lA lc ll a (way.take k) done gs := by
  have hl : (way.take k).length = k := by rw [List.length_take]; omega
  have O6 : Only (fun q => q = g) u (u.setCell ⟨g, 4, none⟩ (.slice a.wA k a.wc)) := (Only.refl _ _).at_ 4 _
  have E6 : Ext w (u.setCell ⟨g, 4, none⟩ (.slice a.wA k a.wc)) := h.x.trans O6 fun q hq e => by have e : q = g := e; have := h.hg; omega
  have hob : ∀ n, (Value.slice a.wA n a.wc).ownBlock = (Value.slice a.wA way.length a.wc).ownBlock := fun n => by cases a.wA <;> rfl
  have OA : Only (Gfp g a way.length done.length gs.length) u (u.setCell ⟨g, 4, none⟩ (.slice a.wA k a.wc)) := O6.weak fun q _ e => .inl e
  have hst : ∀ q, Gfp g a (way.take k).length done.length gs.length q → Gfp g a way.length done.length gs.length q ∨ u.heap.size ≤ q := by
    rintro q (e | e | e)
    · exact .inl (.inl e)
    · exact .inl (.inr (.inl ((hob _).symm.trans e)))
    · exact .inl (.inr (.inr e))
  have hF : Fresh strF 9 w u a.wA a.wc (way.take k) := by
    refine ⟨?_, h.x, fun q hq => h.fw.new q ((hob _).symm.trans hq)⟩
    have h1 := own_take h.fw.own hk
    rw [hl]
    have h2 : (way.take k).flatMap strF.enc = (way.flatMap strF.enc).take k := by
      have : ∀ l : List Str, l.flatMap strF.enc = l.map S := fun l => by induction l with
        | nil => rfl
        | cons x xs ih => rw [List.flatMap_cons, ih]; rfl
      rw [this, this, List.map_take]
    rw [h2]
    exact h1
  refine ⟨?_, hF.keep O6 E6 (own_ne_cs hF.own h.cs (by decide)), h.fd.keep O6 E6 (own_ne_cs h.fd.own h.cs (by decide)), h.fo.keep O6 E6 (own_ne_cs h.fo.own h.cs (by decide)), h.hg, fun q h1 h2 => h.wd q ((hob _).symm.trans h1) h2, fun x hm => ⟨(h.rw x hm).1.step OA hst, (h.rw x hm).2.1.step OA hst, (h.rw x hm).2.2.step OA hst⟩⟩
  have := h.cs.set_ 4 (.slice a.wA k a.wc)
  rw [hl]
  exact this
end
def DoneOk (m : Mk) (l : List File) (done : List Str) (out : List Grp) : Prop :=
  ∃ fs : List Str, fs.Nodup ∧ (∀ x ∈ fs, isF l x = true ∧ ruleF m l x = none) ∧ done.length = fs.length + (out.flatMap (·.targets)).length ∧ ∀ n, n ∈ done ↔ n ∈ fs ∨ n ∈ out.flatMap (·.targets)
section
variable {m : Mk} {l : List File} {done way : List Str} {out : List Grp} {n : Str}
theorem DoneOk.nil : DoneOk m l [] [] := ⟨[], by simp, (fun x hx => by cases hx), rfl, by simp⟩
theorem DoneOk.file (h : DoneOk m l done out) (hn : n ∉ done) (hf : isF l n = true) (hr : ruleF m l n = none) : DoneOk m l (done ++ [n]) out := by
  obtain ⟨fs, h1, h2, h3, h4⟩ := h
  refine ⟨fs ++ [n], ?_, ?_, ?_, ?_⟩
  · rw [List.nodup_append]
    refine ⟨h1, by simp, ?_⟩
    intro a ha b hb e
    simp at hb
    subst e; subst hb
    exact hn ((h4 _).2 (.inl ha))
  · intro x hx
    rcases List.mem_append.1 hx with hx | hx
    · exact h2 x hx
    · simp at hx; rw [hx]; exact ⟨hf, hr⟩
  · simp only [List.length_append, List.length_cons, List.length_nil]; omega
  · intro k
    simp only [List.mem_append, h4, List.mem_cons, List.not_mem_nil, or_false]
    constructor
    · rintro ((h | h) | h)
      · exact .inl (.inl h)
      · exact .inr h
      · exact .inl (.inr h)
    · rintro ((h | h) | h)
      · exact .inl (.inl h)
      · exact .inr h
      · exact .inl (.inr h)
theorem DoneOk.grp {g : Grp} (h : DoneOk m l done out) : DoneOk m l (done ++ g.targets) (out ++ [g]) := by
  obtain ⟨fs, h1, h2, h3, h4⟩ := h
  refine ⟨fs, h1, h2, ?_, ?_⟩
  · simp only [List.length_append, List.flatMap_append, List.flatMap_cons, List.flatMap_nil, List.append_nil]; omega
  · intro k
    simp only [List.mem_append, h4, List.flatMap_append, List.flatMap_cons, List.flatMap_nil, List.append_nil]
    constructor
    · rintro ((h | h) | h)
      · exact .inl h
      · exact .inr (.inl h)
      · exact .inr (.inr h)
    · rintro (h | h | h)
      · exact .inl (.inl h)
      · exact .inl (.inr h)
      · exact .inr h
theorem maker_some {n : Str} : (makerF out n).isSome = true ↔ n ∈ out.flatMap (·.targets) := by
  unfold makerF
  rw [List.findIdx?_isSome, List.any_eq_true, List.mem_flatMap]
  constructor
  · rintro ⟨g, h1, h2⟩; exact ⟨g, h1, by simpa [inS] using h2⟩
  · rintro ⟨g, h1, h2⟩; exact ⟨g, h1, by simpa [inS] using h2⟩
theorem visit_done (h : DoneOk m l done out) (hw : inS way n = false) (hd : inS done n = true) (f : Nat) : visitF m l (f + 1) way out n = (out, 0) := by
  obtain ⟨fs, h1, h2, h3, h4⟩ := h
  have hd : n ∈ done := by simpa [inS] using hd
  rw [visitF, if_neg (by rw [hw]; decide)]
  by_cases hm : (makerF out n).isSome = true
  · rw [if_pos hm]
  · rw [if_neg hm]
    rcases (h4 n).1 hd with hx | hx
    · obtain ⟨q1, q2⟩ := h2 n hx
      rw [q2]
      show (if isF l n = true then (out, (0 : Int)) else (out, 5)) = _
      rw [if_pos q1]
    · exact absurd (maker_some.2 hx) hm
theorem not_done (h : DoneOk m l done out) (hd : inS done n = false) : (makerF out n).isSome = false := by
  obtain ⟨fs, h1, h2, h3, h4⟩ := h
  have hd : ¬ n ∈ done := by simpa [inS] using hd
  rw [← Bool.not_eq_true, maker_some]
  exact fun e => hd ((h4 n).2 (.inr e))
theorem nodup_sub : ∀ {a b : List Str}, a.Nodup → (∀ x ∈ a, x ∈ b) → a.length ≤ b.length
  | [], _, _, _ => Nat.zero_le _
  | x :: xs, b, hn, hs => by
    have hx := hs x (by simp)
    rw [List.nodup_cons] at hn
    have := nodup_sub (b := b.erase x) hn.2 fun y hy => (List.mem_erase_of_ne (show y ≠ x from fun e => hn.1 (by rw [← e]; exact hy))).2 (hs y (List.mem_cons_of_mem _ hy))
    rw [List.length_erase_of_mem hx] at this
    have := List.length_pos_of_mem hx
    simp only [List.length_cons]
    omega
theorem flat_le : ∀ {out : List Grp}, (∀ g ∈ out, g.targets.length ≤ 2) → (out.flatMap (·.targets)).length ≤ 2 * out.length
  | [], _ => by simp
  | g :: gs, h => by
    have h1 := h g (by simp)
    have h2 := flat_le (out := gs) fun x hx => h x (List.mem_cons_of_mem _ hx)
    simp only [List.flatMap_cons, List.length_append, List.length_cons]
    omega
theorem DoneOk.len (h : DoneOk m l done out) (ho : out.length ≤ 10) (ht : ∀ g ∈ out, g.targets.length ≤ 2) : done.length ≤ l.length + 20 := by
  obtain ⟨fs, h1, h2, h3, h4⟩ := h
  have a1 := flat_le ht
  have a2 : fs.length ≤ (l.map (·.1)).length := by
    refine nodup_sub h1 fun x hx => ?_
    obtain ⟨y, hy⟩ := Option.isSome_iff_exists.1 (h2 x hx).1
    unfold getL at hy
    have e := List.find?_some hy
    simp only [decide_eq_true_eq] at e
    exact e ▸ List.mem_map_of_mem (List.mem_of_find?_eq_some hy)
  rw [List.length_map] at a2
  omega
end
end Go.Proofs.YtnhaekifcieeoaaGreatDoor
