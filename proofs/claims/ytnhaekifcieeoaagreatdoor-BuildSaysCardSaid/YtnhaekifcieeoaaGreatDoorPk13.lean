/- Put together: Rg1, Rg2, Gx5. -/
import Derived.Test.YtnhaekifcieeoaaGreatDoorPk10
import Derived.Test.YtnhaekifcieeoaaGreatDoorPk12
import Derived.Test.YtnhaekifcieeoaaGreatDoorPk04
import Derived.Test.YtnhaekifcieeoaaGreatDoorPk07
import Derived.Test.YtnhaekifcieeoaaGreatDoorPk09
namespace Go.Proofs.YtnhaekifcieeoaaGreatDoor
open Go Go.RowKit
theorem goes_app0 {P : Program} {a : Act} {w : World} {o : Oper} {K : Value → World → Prop} {α : Type} {T : Flat α} {t e : TypeId} (hT : Ety P t e T.size) {s x : Operand} (ho : o.op = .call { callee := .builtin .append, args := #[s, x], argTypes := #[t, t] })
    (hs : a.eval s = .slice none 0 0) {A : Option Addr} {m c : Nat} (hx : a.eval x = .slice A m c) {xs : List α} (hr : SlR T w A m xs) (hp : 0 < T.size) (h1 : ∀ u ∈ xs.flatMap T.enc, u.oneCell' = true) (hsm : m ≤ 100000000)
    (h : ∀ A' c' w', Fresh T e w w' A' c' xs → K (.slice A' m c') w') : Mix.goes P o a w K := by
  refine goes_append (v := .slice none 0 0) (n := 0) (xs := []) hT ho hs hx (World.ownsRow_nil _ _ _ _) (hr.rd hp) h1 (by omega) ?_
  intro A' c' w' hown hg hb
  have F := (Fresh.nil T e w w (Only.refl _ _)).grow (m := m) (ys := xs) hr.1 hown hg hb
  rw [Nat.zero_add]
  exact h A' c' w' F
set_option maxRecDepth 100000 in
set_option maxHeartbeats 8000000 in
theorem groupOf_c {w : World} (hml : Ml w) {v : MkV} {rs : List (RulA × Rul)} {m : Mk} (hm : MakeR w v rs m) {x : RulA × Rul} (ht : SlR strF w x.1.tA x.2.targets.length x.2.targets) (hn : SlR strF w x.1.nA x.2.needs.length x.2.needs) (hc : SlR strF w x.1.cA x.2.cmds.length x.2.cmds)
    (h1 : 1 ≤ x.2.targets.length) (h2 : x.2.targets.length ≤ 2) (h3 : x.2.needs.length ≤ 3) (h4 : x.2.cmds.length ≤ 3) (l1 : ∀ t ∈ x.2.targets, t.length ≤ 100) (l2 : ∀ t ∈ x.2.needs, t.length ≤ 100) (l3 : ∀ t ∈ x.2.cmds, t.length ≤ 100)
    (name stem : Str) (l4 : name.length ≤ 200) (l5 : stem.length ≤ 200) (hph : m.phony.length ≤ 100000) :
    Calls Tryz.prog 92 #[mkV v m, ruleV x, S name, S stem] w (OfRes w (groupF m x.2 name stem)) := by
  obtain ⟨w1, hw1⟩ : ∃ u, u = w.alloc (.cells #[.slice v.vA m.vars.length v.vc, .slice v.rA m.rules.length v.rc, .slice v.pA m.phony.length v.pc] makeT) := ⟨_, rfl⟩
  obtain ⟨w2, hw2⟩ : ∃ u, u = w1.alloc (.cells #[.slice x.1.tA x.2.targets.length x.1.tc, .slice x.1.nA x.2.needs.length x.1.nc, .slice x.1.cA x.2.cmds.length x.1.cc] ruleT) := ⟨_, rfl⟩
  go_enter Tryz.func92, Tryz.ntmps92
  go_upto_region 1 with fail
  obtain ⟨w3, hw3⟩ : ∃ u, u = w2.alloc (.cells #[.slice none 0 0, .slice none 0 0, .slice none 0 0, .bool false] grpT) := ⟨_, rfl⟩
  rw [← hw1, ← hw2, ← hw3]
  obtain ⟨b4, hb4⟩ : ∃ b, b = w.heap.size := ⟨_, rfl⟩
  obtain ⟨b5, hb5⟩ : ∃ b, b = w.heap.size + 1 := ⟨_, rfl⟩
  obtain ⟨b8, hb8⟩ : ∃ b, b = w.heap.size + 1 + 1 := ⟨_, rfl⟩
  rw [← hb8, ← hb5, ← hb4]
  have s1 : w1.heap.size = w.heap.size + 1 := by rw [hw1]; simp
  have s2 : w2.heap.size = w.heap.size + 1 + 1 := by rw [hw2]; simp [s1]
  have x1 : Ext w w1 := by rw [hw1]; exact (Only.refl No w).alloc _
  have x2 : Ext w1 w2 := by rw [hw2]; exact (Only.refl No w1).alloc _
  have x3 : Ext w2 w3 := by rw [hw3]; exact (Only.refl No w2).alloc _
  have C4 : Cs w3 b4 makeT #[.slice v.vA m.vars.length v.vc, .slice v.rA m.rules.length v.rc, .slice v.pA m.phony.length v.pc] := (show Cs w1 b4 makeT _ by rw [hw1, hb4]; exact Cs.new _ _ _).keep (x2.then_ext x3) id
  have C5 : Cs w3 b5 ruleT #[.slice x.1.tA x.2.targets.length x.1.tc, .slice x.1.nA x.2.needs.length x.1.nc, .slice x.1.cA x.2.cmds.length x.1.cc] := (show Cs w2 b5 ruleT _ by rw [hw2, hb5, ← s1]; exact Cs.new _ _ _).keep x3 id
  have C8 : Cs w3 b8 grpT #[.slice none 0 0, .slice none 0 0, .slice none 0 0, .bool false] := by rw [hw3, hb8, ← s2]; exact Cs.new _ _ _
  have X3 : Hid (Ext w w3) := (x1.then_ext x2).then_ext x3
  have HB : Hid (w.heap.size ≤ b4 ∧ w.heap.size ≤ b5 ∧ w.heap.size ≤ b8) := by rw [hb4, hb5, hb8]; exact ⟨by omega, by omega, by omega⟩
  have HC := Lib.hid (And.intro C4 (And.intro C5 C8))
  have HM := Lib.hid (And.intro hml hm)
  have HX := Lib.hid (And.intro ht (And.intro hn hc))
  have HL := Lib.hid (And.intro l1 (And.intro l2 l3))
  clear hw1 hw2 hw3 hb4 hb5 hb8 s1 s2 x1 x2 x3 C4 C5 C8 hml hm ht hn hc l1 l2 l3
  obtain ⟨bb, o, t0, hA, hx, c0⟩ := strs_get HX.out.1 (k := 0) (by omega)
  have ht0 : x.2.targets.headD [] = t0 := by
    cases htt : x.2.targets with
    | nil => rw [htt] at hx; cases hx
    | cons y r => rw [htt] at hx; exact Option.some.inj hx
  have HT0 := Lib.hid ht0
  have d5 : ∀ ξ : X w3 No, ξ.v.cell? ⟨b5, 0, none⟩ = some (.slice (some ⟨bb, o, none⟩) x.2.targets.length x.1.tc) := fun ξ => by rw [← hA]; exact HC.out.2.1.x (F := No) id 0 ξ
  have d4 : ∀ ξ : X w3 No, ξ.v.cell? ⟨b4, 2, none⟩ = some (.slice v.pA m.phony.length v.pc) := HC.out.1.x (F := No) id 2
  have dt : ∀ ξ : X w3 No, ξ.v.cell? ⟨bb, o, none⟩ = some (S t0) := fun ξ => c0 ⟨ξ.v, X3.out.then_ext ξ.h⟩
  have HSr : Hid (SlR strF w (some ⟨bb, o, none⟩) x.2.targets.length x.2.targets) := by rw [Hid, ← hA]; exact HX.out.1
  obtain ⟨ph, hph2⟩ : ∃ b, b = inS m.phony t0 := ⟨_, rfl⟩
  have HCo : Hid (∀ u, Ext w u → Calls Tryz.prog 20 #[.slice v.pA m.phony.length v.pc, S t0] u fun e w' => e = .returned (.bool ph) ∧ Ext u w') := fun u hu => by
    rw [hph2]; exact In_c (c := v.pc) (HM.out.2.fp.ext hu) (by omega) t0
  have HPh := Lib.hid hph2
  have hgb := grp_build
  have HA := Lib.hid hA
  clear hx c0 ht0 hph2 hA
  go_cut [9] from 14 to 24 (fun p u => ∃ b9 A1 c1, p = rpt b9 ∧ Gr w u b9 b5 b8 (rulL x) ⟨A1, c1, none, 0, none, 0⟩ x.2.targets [] [] ph)
  case first =>
    refine Mix.wp_tree 13 [2, 9, 11, 12] (Cl w3 No) rfl (by kernel_rfl) (by kernel_rfl) (Cl.drew_ (X.here w3 No)) ?_
    obtain ⟨μ0, hμ0⟩ : ∃ u, u = w3.drew := ⟨_, rfl⟩
    have Y : Hid (Ext w3 μ0) := by rw [hμ0]; exact (Only.refl No w3).drew
    rw [← hμ0]
    clear hμ0
    (refine Mix.tree_quiet (i := 0) (by kernel_rfl) rfl rfl rfl rfl ?_; intro K hK; go_big_quiet_op; go_big_quiet_on); (refine Mix.tree_quiet (i := 1) (by kernel_rfl) rfl rfl rfl rfl ?_; intro K hK; go_big_quiet_op; go_big_quiet_on); (refine Mix.tree_quiet (i := 3) (by kernel_rfl) rfl rfl rfl rfl ?_; intro K hK; go_big_quiet_op; go_big_quiet_on); (refine Mix.tree_quiet (i := 4) (by kernel_rfl) rfl rfl rfl rfl ?_; intro K hK; go_big_quiet_op; go_big_quiet_on); (refine Mix.tree_quiet (i := 5) (by kernel_rfl) rfl rfl rfl rfl ?_; intro K hK; go_big_quiet_op; go_big_quiet_on); (refine Mix.tree_quiet (i := 6) (by kernel_rfl) rfl rfl rfl rfl ?_; intro K hK; go_big_quiet_op; go_big_quiet_on); (refine Mix.tree_quiet (i := 7) (by kernel_rfl) rfl rfl rfl rfl ?_; intro K hK; go_big_quiet_op; go_big_quiet_on); (refine Mix.tree_quiet (i := 8) (by kernel_rfl) rfl rfl rfl rfl ?_; intro K hK; go_big_quiet_op; go_big_quiet_on)
    refine Mix.tree_two (i := 2) (j := 11) (by kernel_rfl) (by kernel_rfl) rfl rfl rfl rfl rfl rfl ?_ ?_
    ·
      intro K hK
      refine goes_app0 (T := strF) st_ty rfl rfl rfl ((HSr.out).ext (X3.out.then_ext Y.out)) (by decide) (str_enc1 _) (by omega) ?_
      intro A1 c1 u1 hF1
      have F : Hid (Fresh strF 9 w u1 A1 c1 x.2.targets) := hF1.from (X3.out.then_ext Y.out)
      have Y := Lib.hid (Y.out.then_ext hF1.ext)
      refine hK _ _ (Cl.of Y.out) ?_
      clear hK K hF1
      simp only [Act.put, List.setIfInBounds_toArray, List.set_cons_succ, List.set_cons_zero]
      refine Mix.tree_two (i := 9) (j := 11) (by kernel_rfl) (by kernel_rfl) rfl rfl rfl rfl rfl rfl ?_ ?_
      ·
        intro K hK
        go_simp
        refine (HCo.out _ (X3.out.then_ext Y.out)).mono ?_
        rintro e u2 ⟨rfl, hx2⟩
        have F := Lib.hid (F.out.on hx2)
        have Y := Lib.hid (Y.out.then_ext hx2)
        refine ⟨_, rfl, hK _ _ (Cl.of Y.out) ?_⟩
        clear hK K hx2
        simp only [Act.put, List.setIfInBounds_toArray, List.set_cons_succ, List.set_cons_zero]
        (refine Mix.tree_quiet (i := 10) (by kernel_rfl) rfl rfl rfl rfl ?_; intro K hK; go_big_quiet_op; go_big_quiet_on)
        refine Mix.tree_one (i := 11) (by kernel_rfl) (by kernel_rfl) rfl rfl rfl ?_
        intro K hK
        go_simp
        obtain ⟨va, hva⟩ : ∃ u, u = (u2).alloc (.cells #[.slice none 0 0, .slice none 0 0, .slice none 0 0, .bool false] grpT) := ⟨_, rfl⟩
        obtain ⟨b9, hb9⟩ : ∃ g, g = (u2).heap.size := ⟨_, rfl⟩
        have C : Hid (Cs va b9 grpT #[.slice none 0 0, .slice none 0 0, .slice none 0 0, .bool false]) := by rw [hva, hb9]; exact Cs.new _ _ _
        have B9 : Hid (w.heap.size ≤ b9) := by rw [Hid, hb9]; exact (X3.out.then_ext Y.out).size
        have B3 : Hid (w3.heap.size ≤ b9) := by rw [Hid, hb9]; exact Y.out.size
        have yva : Ext u2 va := by rw [hva]; exact (Only.refl No _).alloc _
        have F := Lib.hid (F.out.on yva)
        have Y := Lib.hid (Y.out.then_ext yva)
        rw [← hva, ← hb9]
        refine hK _ _ (Cl.of Y.out) ?_
        clear hK K hva hb9 yva
        simp only [Act.put, List.setIfInBounds_toArray, List.set_cons_succ, List.set_cons_zero]
        refine Mix.tree_one (i := 12) (by kernel_rfl) (by kernel_rfl) rfl rfl rfl ?_
        intro K hK
        have k0 := C.out.cell 0
        have k1 := C.out.cell 1
        have k2 := C.out.cell 2
        have k3 := C.out.cell 3
        simp only [List.getElem?_toArray, List.getElem?_cons_succ, List.getElem?_cons_zero] at k0 k1 k2 k3
        have z0 := C.out.frozen 0
        have z1 := C.out.frozen 1
        have z2 := C.out.frozen 2
        have z3 := C.out.frozen 3
        go_simp
        obtain ⟨v9, hv9⟩ : ∃ u, u = ((((va).setCell ⟨b9, 0, none⟩ (.slice A1 x.2.targets.length c1)).setCell ⟨b9, 1, none⟩ (.slice none 0 0)).setCell ⟨b9, 2, none⟩ (.slice none 0 0)).setCell ⟨b9, 3, none⟩ (.bool ph) := ⟨_, rfl⟩
        have O9 : Only (fun q => q = b9) (va) v9 := by rw [hv9]; exact ((((Only.refl _ _).at_ 0 _).at_ 1 _).at_ 2 _).at_ 3 _
        have C9 : Cs v9 b9 grpT #[.slice A1 x.2.targets.length c1, .slice none 0 0, .slice none 0 0, .bool ph] := by rw [hv9]; exact (((C.out.set_ 0 _).set_ 1 _).set_ 2 _).set_ 3 _
        have x9 : Ext w v9 := (X3.out.then_ext Y.out).trans O9 fun q hq e => by have e : q = b9 := e; have := B9.out; omega
        have F9 : Fresh strF 9 w v9 A1 c1 x.2.targets := ⟨own_keep F.out.own O9 (own_ne_cs F.out.own C.out (by decide)), x9, F.out.new⟩
        have y9 : Ext w3 v9 := Y.out.trans O9 fun q hq e => by have e : q = b9 := e; have := B3.out; omega
        rw [← hv9]
        refine hK _ _ (Cl.of y9) ?_
        clear hK K hv9 k0 k1 k2 k3 z0 z1 z2 z3
        simp only [Act.put, List.setIfInBounds_toArray, List.set_cons_succ, List.set_cons_zero]
        refine Mix.tree_nil ?_
        go_wp2_with fail
        go_meet
        exact ⟨b9, A1, c1, rfl, C9, HC.out.2.1.keep y9 id, HC.out.2.2.keep y9 id, F9, Fresh.nil _ _ _ _ x9, Fresh.nil _ _ _ _ x9, B9.out, HB.out.2.2, by have := HC.out.2.2.lt; have := B3.out; omega, fun q _ h2 => by simp [Value.ownBlock] at h2, fun q _ h2 => by simp [Value.ownBlock] at h2, fun q _ h2 => by simp [Value.ownBlock] at h2⟩
      ·
        intro K hK
        go_simp
        obtain ⟨va, hva⟩ : ∃ u, u = (u1).alloc (.cells #[.slice none 0 0, .slice none 0 0, .slice none 0 0, .bool false] grpT) := ⟨_, rfl⟩
        obtain ⟨b9, hb9⟩ : ∃ g, g = (u1).heap.size := ⟨_, rfl⟩
        have C : Hid (Cs va b9 grpT #[.slice none 0 0, .slice none 0 0, .slice none 0 0, .bool false]) := by rw [hva, hb9]; exact Cs.new _ _ _
        have B9 : Hid (w.heap.size ≤ b9) := by rw [Hid, hb9]; exact (X3.out.then_ext Y.out).size
        have B3 : Hid (w3.heap.size ≤ b9) := by rw [Hid, hb9]; exact Y.out.size
        have yva : Ext u1 va := by rw [hva]; exact (Only.refl No _).alloc _
        have F := Lib.hid (F.out.on yva)
        have Y := Lib.hid (Y.out.then_ext yva)
        rw [← hva, ← hb9]
        refine hK _ _ (Cl.of Y.out) ?_
        clear hK K hva hb9 yva
        simp only [Act.put, List.setIfInBounds_toArray, List.set_cons_succ, List.set_cons_zero]
        refine Mix.tree_one (i := 9) (by kernel_rfl) (by kernel_rfl) rfl rfl rfl ?_
        intro K hK
        go_simp
        refine (HCo.out _ (X3.out.then_ext Y.out)).mono ?_
        rintro e u2 ⟨rfl, hx2⟩
        have F := Lib.hid (F.out.on hx2)
        have C := Lib.hid (C.out.keep hx2 id)
        have Y := Lib.hid (Y.out.then_ext hx2)
        refine ⟨_, rfl, hK _ _ (Cl.of Y.out) ?_⟩
        clear hK K hx2
        simp only [Act.put, List.setIfInBounds_toArray, List.set_cons_succ, List.set_cons_zero]
        (refine Mix.tree_quiet (i := 10) (by kernel_rfl) rfl rfl rfl rfl ?_; intro K hK; go_big_quiet_op; go_big_quiet_on)
        refine Mix.tree_one (i := 12) (by kernel_rfl) (by kernel_rfl) rfl rfl rfl ?_
        intro K hK
        have k0 := C.out.cell 0
        have k1 := C.out.cell 1
        have k2 := C.out.cell 2
        have k3 := C.out.cell 3
        simp only [List.getElem?_toArray, List.getElem?_cons_succ, List.getElem?_cons_zero] at k0 k1 k2 k3
        have z0 := C.out.frozen 0
        have z1 := C.out.frozen 1
        have z2 := C.out.frozen 2
        have z3 := C.out.frozen 3
        go_simp
        obtain ⟨v9, hv9⟩ : ∃ u, u = ((((u2).setCell ⟨b9, 0, none⟩ (.slice A1 x.2.targets.length c1)).setCell ⟨b9, 1, none⟩ (.slice none 0 0)).setCell ⟨b9, 2, none⟩ (.slice none 0 0)).setCell ⟨b9, 3, none⟩ (.bool ph) := ⟨_, rfl⟩
        have O9 : Only (fun q => q = b9) (u2) v9 := by rw [hv9]; exact ((((Only.refl _ _).at_ 0 _).at_ 1 _).at_ 2 _).at_ 3 _
        have C9 : Cs v9 b9 grpT #[.slice A1 x.2.targets.length c1, .slice none 0 0, .slice none 0 0, .bool ph] := by rw [hv9]; exact (((C.out.set_ 0 _).set_ 1 _).set_ 2 _).set_ 3 _
        have x9 : Ext w v9 := (X3.out.then_ext Y.out).trans O9 fun q hq e => by have e : q = b9 := e; have := B9.out; omega
        have F9 : Fresh strF 9 w v9 A1 c1 x.2.targets := ⟨own_keep F.out.own O9 (own_ne_cs F.out.own C.out (by decide)), x9, F.out.new⟩
        have y9 : Ext w3 v9 := Y.out.trans O9 fun q hq e => by have e : q = b9 := e; have := B3.out; omega
        rw [← hv9]
        refine hK _ _ (Cl.of y9) ?_
        clear hK K hv9 k0 k1 k2 k3 z0 z1 z2 z3
        simp only [Act.put, List.setIfInBounds_toArray, List.set_cons_succ, List.set_cons_zero]
        refine Mix.tree_nil ?_
        go_wp2_with fail
        go_meet
        exact ⟨b9, A1, c1, rfl, C9, HC.out.2.1.keep y9 id, HC.out.2.2.keep y9 id, F9, Fresh.nil _ _ _ _ x9, Fresh.nil _ _ _ _ x9, B9.out, HB.out.2.2, by have := HC.out.2.2.lt; have := B3.out; omega, fun q _ h2 => by simp [Value.ownBlock] at h2, fun q _ h2 => by simp [Value.ownBlock] at h2, fun q _ h2 => by simp [Value.ownBlock] at h2⟩
    ·
      intro K hK
      go_simp
      obtain ⟨va, hva⟩ : ∃ u, u = (μ0).alloc (.cells #[.slice none 0 0, .slice none 0 0, .slice none 0 0, .bool false] grpT) := ⟨_, rfl⟩
      obtain ⟨b9, hb9⟩ : ∃ g, g = (μ0).heap.size := ⟨_, rfl⟩
      have C : Hid (Cs va b9 grpT #[.slice none 0 0, .slice none 0 0, .slice none 0 0, .bool false]) := by rw [hva, hb9]; exact Cs.new _ _ _
      have B9 : Hid (w.heap.size ≤ b9) := by rw [Hid, hb9]; exact (X3.out.then_ext Y.out).size
      have B3 : Hid (w3.heap.size ≤ b9) := by rw [Hid, hb9]; exact Y.out.size
      have yva : Ext μ0 va := by rw [hva]; exact (Only.refl No _).alloc _
      have Y := Lib.hid (Y.out.then_ext yva)
      rw [← hva, ← hb9]
      refine hK _ _ (Cl.of Y.out) ?_
      clear hK K hva hb9 yva
      simp only [Act.put, List.setIfInBounds_toArray, List.set_cons_succ, List.set_cons_zero]
      refine Mix.tree_one (i := 2) (by kernel_rfl) (by kernel_rfl) rfl rfl rfl ?_
      intro K hK
      refine goes_app0 (T := strF) st_ty rfl rfl rfl ((HSr.out).ext (X3.out.then_ext Y.out)) (by decide) (str_enc1 _) (by omega) ?_
      intro A1 c1 u1 hF1
      have F : Hid (Fresh strF 9 w u1 A1 c1 x.2.targets) := hF1.from (X3.out.then_ext Y.out)
      have C := Lib.hid (C.out.keep hF1.ext id)
      have Y := Lib.hid (Y.out.then_ext hF1.ext)
      refine hK _ _ (Cl.of Y.out) ?_
      clear hK K hF1
      simp only [Act.put, List.setIfInBounds_toArray, List.set_cons_succ, List.set_cons_zero]
      refine Mix.tree_one (i := 9) (by kernel_rfl) (by kernel_rfl) rfl rfl rfl ?_
      intro K hK
      go_simp
      refine (HCo.out _ (X3.out.then_ext Y.out)).mono ?_
      rintro e u2 ⟨rfl, hx2⟩
      have F := Lib.hid (F.out.on hx2)
      have C := Lib.hid (C.out.keep hx2 id)
      have Y := Lib.hid (Y.out.then_ext hx2)
      refine ⟨_, rfl, hK _ _ (Cl.of Y.out) ?_⟩
      clear hK K hx2
      simp only [Act.put, List.setIfInBounds_toArray, List.set_cons_succ, List.set_cons_zero]
      (refine Mix.tree_quiet (i := 10) (by kernel_rfl) rfl rfl rfl rfl ?_; intro K hK; go_big_quiet_op; go_big_quiet_on)
      refine Mix.tree_one (i := 12) (by kernel_rfl) (by kernel_rfl) rfl rfl rfl ?_
      intro K hK
      have k0 := C.out.cell 0
      have k1 := C.out.cell 1
      have k2 := C.out.cell 2
      have k3 := C.out.cell 3
      simp only [List.getElem?_toArray, List.getElem?_cons_succ, List.getElem?_cons_zero] at k0 k1 k2 k3
      have z0 := C.out.frozen 0
      have z1 := C.out.frozen 1
      have z2 := C.out.frozen 2
      have z3 := C.out.frozen 3
      go_simp
      obtain ⟨v9, hv9⟩ : ∃ u, u = ((((u2).setCell ⟨b9, 0, none⟩ (.slice A1 x.2.targets.length c1)).setCell ⟨b9, 1, none⟩ (.slice none 0 0)).setCell ⟨b9, 2, none⟩ (.slice none 0 0)).setCell ⟨b9, 3, none⟩ (.bool ph) := ⟨_, rfl⟩
      have O9 : Only (fun q => q = b9) (u2) v9 := by rw [hv9]; exact ((((Only.refl _ _).at_ 0 _).at_ 1 _).at_ 2 _).at_ 3 _
      have C9 : Cs v9 b9 grpT #[.slice A1 x.2.targets.length c1, .slice none 0 0, .slice none 0 0, .bool ph] := by rw [hv9]; exact (((C.out.set_ 0 _).set_ 1 _).set_ 2 _).set_ 3 _
      have x9 : Ext w v9 := (X3.out.then_ext Y.out).trans O9 fun q hq e => by have e : q = b9 := e; have := B9.out; omega
      have F9 : Fresh strF 9 w v9 A1 c1 x.2.targets := ⟨own_keep F.out.own O9 (own_ne_cs F.out.own C.out (by decide)), x9, F.out.new⟩
      have y9 : Ext w3 v9 := Y.out.trans O9 fun q hq e => by have e : q = b9 := e; have := B3.out; omega
      rw [← hv9]
      refine hK _ _ (Cl.of y9) ?_
      clear hK K hv9 k0 k1 k2 k3 z0 z1 z2 z3
      simp only [Act.put, List.setIfInBounds_toArray, List.set_cons_succ, List.set_cons_zero]
      refine Mix.tree_nil ?_
      go_wp2_with fail
      go_meet
      exact ⟨b9, A1, c1, rfl, C9, HC.out.2.1.keep y9 id, HC.out.2.2.keep y9 id, F9, Fresh.nil _ _ _ _ x9, Fresh.nil _ _ _ _ x9, B9.out, HB.out.2.2, by have := HC.out.2.2.lt; have := B3.out; omega, fun q _ h2 => by simp [Value.ownBlock] at h2, fun q _ h2 => by simp [Value.ownBlock] at h2, fun q _ h2 => by simp [Value.ownBlock] at h2⟩
  case rest =>
    obtain ⟨b9, A1, c1, rfl, hG⟩ := hcut
    have G1 := Lib.hid hG
    clear hG HSr HCo d5 d4 dt hgb
    obtain ⟨ts, hts⟩ : ∃ l, l = tgtOf x.2 name stem := ⟨_, rfl⟩
    have HTs := Lib.hid hts
    clear hts
    go_upto_region 2 with fail
    go_cut [9, 26] from 25 to 26 (fun p c u => p = rpt b9 ∧ (∃ cb, c = .bool cb ∧ (cb = true ↔ stem ≠ [])) ∧ u = wc)
    case first =>
      by_cases hst : stem = []
      · subst hst
        go_wp2_with fail
        go_meet
        exact ⟨rfl, ⟨false, rfl, by simp⟩, rfl⟩
      · have q1 : (stem == ([] : Str)) = false := by rw [beq_eq_false_iff_ne]; exact hst
        go_wp2_with fail
        go_meet
        exact ⟨rfl, ⟨true, rfl, by simp [hst]⟩, rfl⟩
    case rest =>
    obtain ⟨rfl, ⟨cb, rfl, hcb⟩, hwc⟩ := hcut
    subst hwc
    have HCB := Lib.hid hcb
    clear hcb
    go_upto_if 26 with fail
    go_cut [9] from 27 to 29 (fun p u => ∃ A1 c1, p = rpt b9 ∧ Gr w u b9 b5 b8 (rulL x) ⟨A1, c1, none, 0, none, 0⟩ ts [] [] ph)
    case first =>
      cases cb with
      | false =>
        have hst : stem = [] := Classical.byContradiction fun h => absurd (HCB.out.2 h) (by decide)
        go_wp2_with fail
        go_meet
        exact ⟨A1, c1, rfl, by rw [HTs.out, hst]; exact G1.out⟩
      | true =>
        have hst := HCB.out.1 rfl
        have HT2 : Hid (ts = [name]) := HTs.out.trans (if_neg hst)
        have k0 := G1.out.cs.cell 0
        have z0 := G1.out.cs.frozen 0
        simp only [List.getElem?_toArray, List.getElem?_cons_succ, List.getElem?_cons_zero] at k0
        have G2 := Lib.hid (G1.out.ext ((Only.refl No wc).alloc (.cells #[S name] 9)))
        have k2 : (wc.alloc (.cells #[S name] 9)).cell? ⟨b9, 0, none⟩ = some (.slice A1 x.2.targets.length c1) := G2.out.cs.cell 0
        have z2 := G2.out.cs.frozen 0
        clear hst
        go_wp2_with fail
        go_meet
        exact ⟨_, 1, rfl, by rw [HT2.out]; exact G1.out.newT rfl rfl (fresh_one G1.out.ft.ext name) ((Only.refl No wc).alloc _)⟩
    case rest =>
      obtain ⟨A2, c2, rfl, hG⟩ := hcut
      have G2 := Lib.hid hG
      clear hG G1
      have htl1 : 1 ≤ ts.length := by
        rw [HTs.out]; unfold tgtOf
        split
        · exact h1
        · exact Nat.le_refl 1
      have htl2 : Hid (∀ t ∈ ts, t.length ≤ 1000) := by
        rw [HTs.out]; unfold tgtOf
        split
        · exact fun t ht => by have := HL.out.1 t ht; omega
        · intro t ht; simp at ht; rw [ht]; omega
      obtain ⟨nA0, hnA⟩ : ∃ A, A = x.1.nA := ⟨_, rfl⟩
      obtain ⟨cA0, hcA⟩ : ∃ A, A = x.1.cA := ⟨_, rfl⟩
      have HN0 : Hid (SlR strF w nA0 x.2.needs.length x.2.needs) := by rw [Hid, hnA]; exact HX.out.2.1
      have HC0 : Hid (SlR strF w cA0 x.2.cmds.length x.2.cmds) := by rw [Hid, hcA]; exact HX.out.2.2
      have HD1 : Hid (∀ u, Cs u b5 ruleT (rulL x) → u.cell? ⟨b5, 1, none⟩ = some (.slice nA0 x.2.needs.length x.1.nc)) := fun u hu => by rw [hnA]; exact hu.cell 1
      have HD2 : Hid (∀ u, Cs u b5 ruleT (rulL x) → u.cell? ⟨b5, 2, none⟩ = some (.slice cA0 x.2.cmds.length x.1.cc)) := fun u hu => by rw [hcA]; exact hu.cell 2
      have HRp : Hid (∀ t, t.length ≤ 1000 → ∀ u, Calls Tryz.prog 84 #[S t, S stem] u fun e w' => e = .returned (S (onceF t stem)) ∧ Ext u w') := fun t ht u => ROnce_c t stem (by omega) (by omega) u
      clear hnA hcA
      go_wp2_with fail
      go_loopw [10] (fun i wr => ∃ k : Nat, k ≤ x.2.needs.length ∧ i = .int .i64 k ∧ ∃ nA nc ns, ns = (x.2.needs.take k).map (fun n => onceF n stem) ∧ Gr w wr b9 b5 b8 (rulL x) ⟨A2, c2, nA, nc, none, 0⟩ ts ns [] ph) (fun i _ => x.2.needs.length - (intOf i).toNat)
      case atStart => exact ⟨0, Nat.zero_le _, rfl, none, 0, [], rfl, G2.out⟩
      case round =>
        clear G2
        obtain ⟨k, hk, rfl, nA, nc, ns, hns, hG⟩ := hrel
        have G3 := Lib.hid hG
        have HNs := Lib.hid hns
        have hnl : ns.length = k := by rw [hns, List.length_map, List.length_take]; omega
        have d1 := HD1.out wr hG.c5
        clear hG hns
        by_cases hlt : k < x.2.needs.length
        · obtain ⟨bn, o, t, rfl, ht, ct⟩ := strs_get HN0.out hlt
          have HT := Lib.hid ht
          have htl : t.length ≤ 1000 := by have := HL.out.2.1 t (List.mem_of_getElem? ht); omega
          have ct' : wr.cell? ⟨bn, o + k, none⟩ = some (S t) := ct ⟨wr, G3.out.ft.ext⟩
          clear ht ct
          go_wp2_with fail
          refine (HRp.out t htl _).mono ?_
          rintro e wd ⟨rfl, hx5⟩
          have GD := Lib.hid (G3.out.ext hx5)
          obtain ⟨y, hy⟩ : ∃ y, y = onceF t stem := ⟨_, rfl⟩
          rw [← hy]
          have HY := Lib.hid hy
          clear hy hx5 d1 ct' G3
          obtain ⟨F, hF⟩ : ∃ F : Nat → Prop, F = fun q => (Value.slice nA ns.length nc).ownBlock = some q := ⟨_, rfl⟩
          have hF9 : ¬ F b9 := by
            rw [hF]
            exact fun e => own_ne_cs GD.out.fn.own GD.out.cs (by decide) _ e rfl
          have c0 : ∀ ξ : X wd F, ξ.v.cell? ⟨b9, 1, none⟩ = some (.slice nA ns.length nc) := GD.out.cs.x hF9 1
          have HFq := Lib.hid hF
          have HNl := Lib.hid hnl
          have hn3 : ns.length ≤ 3 := by omega
          clear hF hF9 hnl
          go_upto_region 8 with fail
          refine Mix.wp_plain [3, 4, 6] (Cl wd F) (Cl.of (Only.refl _ _)) ?_
          (repeat' (refine Mix.lex_quiet0 rfl rfl rfl ?_; intro K hK; go_big_quiet_op; go_big_quiet_on))
          ((first | refine Mix.lex_goes0 rfl rfl ?_ | refine Mix.lex_goesG rfl rfl rfl (by with_reducible rfl) rfl ?_); intro K hK; go_simp)
          have G6 := Lib.hid (GD.out.ext ((Only.refl No wd).alloc (.cells #[S y] 9)))
          refine hK _ _ (fun _ => Cl.of ((Only.refl F wd).alloc _)) ?_
          clear hK K
          simp only [Act.put, List.setIfInBounds_toArray, List.set_cons_succ, List.set_cons_zero]
          refine Mix.lex_goes0 rfl rfl ?_
          intro K hK
          refine goes_append (v := .slice nA ns.length nc) (n := ns.length) (xs := ns.flatMap strF.enc) st_ty rfl rfl rfl G6.out.fn.own (rd_one wd _ [S y]) (by simp [Value.oneCell']) (by omega) ?_
          intro A' c' w5 hown5 hg5 hb5
          have P7 := Lib.hid (G6.out.growN (t := y) hown5 hg5 hb5)
          have O7 : Hid (Only F wd w5) := ((Only.refl F wd).alloc (.cells #[S y] 9)).grown hg5 fun g hg => .inr (by rw [HFq.out]; exact hg)
          refine hK _ _ (fun _ => Cl.of O7.out) ?_
          clear hK K
          simp only [Act.put, List.setIfInBounds_toArray, List.set_cons_succ, List.set_cons_zero]
          have C7 := G6.out.cs.keep ((Only.refl (fun b => (Value.slice nA ns.length nc).ownBlock = some b) _).grown hg5 fun g hg => .inr hg) (fun e => own_ne_cs G6.out.fn.own G6.out.cs (by decide) _ e rfl)
          have y0 : w5.cell? ⟨b9, 1, none⟩ = some (.slice nA ns.length nc) := C7.cell 1
          have z0 := C7.frozen 1
          clear C7 hown5 hg5 hb5 G6 GD
          (repeat' (refine Mix.lex_quiet0 rfl rfl rfl ?_; intro K hK; go_big_quiet_op; go_big_quiet_on))
          ((first | refine Mix.lex_goes0 rfl rfl ?_ | refine Mix.lex_goesG rfl rfl rfl (by with_reducible rfl) rfl ?_); intro K hK; go_simp)
          refine hK _ _ (fun hne => absurd rfl hne) ?_
          clear hK K y0 z0
          simp only [Act.put, List.setIfInBounds_toArray, List.set_cons_succ, List.set_cons_zero]
          refine Mix.lex_nil ?_
          go_wp2_with fail
          go_roundw
          case rel => exact ⟨k + 1, by omega, by go_num, A', c', ns ++ [y], by rw [HNs.out, HY.out, List.take_add_one, HT.out]; simp, P7.out⟩
          case measure => simp [intOf]; omega
        · obtain rfl : k = x.2.needs.length := by omega
          have HNd : Hid (ns = ndsOf x.2 stem) := by rw [Hid, HNs.out, List.take_of_length_le (Nat.le_refl _)]; rfl
          have hn3 : ns.length ≤ 3 := by omega
          have HNl := Lib.hid hnl
          have htl3 : Hid (∀ t ∈ ns, t.length ≤ 1000) := by
            rw [HNd.out]
            intro t ht
            obtain ⟨y, hy, rfl⟩ := List.mem_map.1 ht
            have a1 := HL.out.2.1 y hy
            have a2 := onceF_len y stem
            omega
          have HAu : Hid (∀ c, c.length ≤ 1000 → ∀ u, SlR strF u A2 ts.length ts → SlR strF u nA ns.length ns → Calls Tryz.prog 122 #[S c, .slice A2 ts.length c2, .slice nA ns.length nc, S stem] u fun e w' => e = .returned (S (cmdOf ts ns stem c)) ∧ Ext u w') := fun c hc u q1 q2 =>
            RAuto_c q1 htl1 q2 (by omega) c stem hc htl2.out htl3.out (by omega)
          clear hnl hlt HNs HRp HN0 HD1
          go_wp2_with fail
          go_loopw [12] (fun i wr => ∃ j : Nat, j ≤ x.2.cmds.length ∧ i = .int .i64 j ∧ ∃ cA cc ks, ks = (x.2.cmds.take j).map (cmdOf ts ns stem) ∧ Gr w wr b9 b5 b8 (rulL x) ⟨A2, c2, nA, nc, cA, cc⟩ ts ns ks ph) (fun i _ => x.2.cmds.length - (intOf i).toNat)
          case atStart => exact ⟨0, Nat.zero_le _, rfl, none, 0, [], rfl, G3.out⟩
          case round =>
            clear G3 d1
            obtain ⟨j, hj, rfl, cA, cc, ks, hks, hG⟩ := hrel
            have G4 := Lib.hid hG
            have HKs := Lib.hid hks
            have hkl : ks.length = j := by rw [hks, List.length_map, List.length_take]; omega
            have d2 := HD2.out wr hG.c5
            clear hG hks
            by_cases hlt : j < x.2.cmds.length
            · obtain ⟨bn, o, t, rfl, ht, ct⟩ := strs_get HC0.out hlt
              have HT := Lib.hid ht
              have htl : t.length ≤ 1000 := by have := HL.out.2.2 t (List.mem_of_getElem? ht); omega
              clear ht
              obtain ⟨wd, hwd⟩ : ∃ v, v = wr.drew := ⟨_, rfl⟩
              have GD : Hid (Gr w wd b9 b5 b8 (rulL x) ⟨A2, c2, nA, nc, cA, cc⟩ ts ns ks ph) := by rw [hwd]; exact G4.out.ext (Only.refl No _).drew
              have c0 : ∀ ξ : X wd No, ξ.v.cell? ⟨b9, 0, none⟩ = some (.slice A2 ts.length c2) := GD.out.cs.x id 0
              have c1 : ∀ ξ : X wd No, ξ.v.cell? ⟨b9, 1, none⟩ = some (.slice nA ns.length nc) := GD.out.cs.x id 1
              have c3 : ∀ ξ : X wd No, ξ.v.cell? ⟨b5, 2, none⟩ = some (.slice (some ⟨bn, o, none⟩) x.2.cmds.length x.1.cc) := fun ξ => HD2.out ξ.v (GD.out.c5.keep ξ.h id)
              have ct' : ∀ ξ : X wd No, ξ.v.cell? ⟨bn, o + j, none⟩ = some (S t) := fun ξ => ct ⟨ξ.v, GD.out.ft.ext.then_ext ξ.h⟩
              have HKl := Lib.hid hkl
              have hk3 : ks.length ≤ 3 := by omega
              clear hkl ct
              go_upto_region 12 with fail
              refine Mix.wp_draw [10] 100 (Cl wd No) (by kernel_rfl) (by kernel_rfl) (by rw [hwd]; exact Cl.of (Only.refl _ _)) ?_
              rw [← hwd]
              clear hwd
              (repeat' (refine Mix.lex_quiet0 rfl rfl rfl ?_; intro K hK; go_big_quiet_op; go_big_quiet_on))
              ((first | refine Mix.lex_goes0 rfl rfl ?_ | refine Mix.lex_goesG rfl rfl rfl (by with_reducible rfl) rfl ?_); intro K hK; go_simp)
              refine (HAu.out t htl _ (GD.out.ft.row (by decide)) (GD.out.fn.row (by decide))).mono ?_
              rintro e u5 ⟨rfl, hx5⟩
              have G5 := Lib.hid (GD.out.ext hx5)
              have O5 := Lib.hid hx5
              refine ⟨_, rfl, hK _ _ (fun _ => Cl.of O5.out) ?_⟩
              clear hK K hx5
              simp only [Act.put, List.setIfInBounds_toArray, List.set_cons_succ, List.set_cons_zero]
              obtain ⟨y, hy⟩ : ∃ y, y = cmdOf ts ns stem t := ⟨_, rfl⟩
              rw [← hy]
              have HY := Lib.hid hy
              clear hy
              (repeat' (refine Mix.lex_quiet0 rfl rfl rfl ?_; intro K hK; go_big_quiet_op; go_big_quiet_on))
              refine Mix.lex_nil ?_
              clear c0 c1 c3 ct' d2 G4 GD O5
              obtain ⟨F, hF⟩ : ∃ F : Nat → Prop, F = fun q => (Value.slice cA ks.length cc).ownBlock = some q := ⟨_, rfl⟩
              have hF9 : ¬ F b9 := by
                rw [hF]
                exact fun e => own_ne_cs G5.out.fc.own G5.out.cs (by decide) _ e rfl
              have c3 : ∀ ξ : X u5 F, ξ.v.cell? ⟨b9, 2, none⟩ = some (.slice cA ks.length cc) := G5.out.cs.x hF9 2
              have HFq := Lib.hid hF
              clear hF hF9
              go_upto_region 13 with fail
              refine Mix.wp_plain [3, 4, 6] (Cl u5 F) (Cl.of (Only.refl _ _)) ?_
              (repeat' (refine Mix.lex_quiet0 rfl rfl rfl ?_; intro K hK; go_big_quiet_op; go_big_quiet_on))
              ((first | refine Mix.lex_goes0 rfl rfl ?_ | refine Mix.lex_goesG rfl rfl rfl (by with_reducible rfl) rfl ?_); intro K hK; go_simp)
              have G6 := Lib.hid (G5.out.ext ((Only.refl No u5).alloc (.cells #[S y] 9)))
              refine hK _ _ (fun _ => Cl.of ((Only.refl F u5).alloc _)) ?_
              clear hK K
              simp only [Act.put, List.setIfInBounds_toArray, List.set_cons_succ, List.set_cons_zero]
              refine Mix.lex_goes0 rfl rfl ?_
              intro K hK
              refine goes_append (v := .slice cA ks.length cc) (n := ks.length) (xs := ks.flatMap strF.enc) st_ty rfl rfl rfl G6.out.fc.own (rd_one u5 _ [S y]) (by simp [Value.oneCell']) (by omega) ?_
              intro A' c' w5 hown5 hg5 hb5
              have P7 := Lib.hid (G6.out.growK (t := y) hown5 hg5 hb5)
              have O7 : Hid (Only F u5 w5) := ((Only.refl F u5).alloc (.cells #[S y] 9)).grown hg5 fun g hg => .inr (by rw [HFq.out]; exact hg)
              refine hK _ _ (fun _ => Cl.of O7.out) ?_
              clear hK K
              simp only [Act.put, List.setIfInBounds_toArray, List.set_cons_succ, List.set_cons_zero]
              have C7 := G6.out.cs.keep ((Only.refl (fun b => (Value.slice cA ks.length cc).ownBlock = some b) _).grown hg5 fun g hg => .inr hg) (fun e => own_ne_cs G6.out.fc.own G6.out.cs (by decide) _ e rfl)
              have y0 : w5.cell? ⟨b9, 2, none⟩ = some (.slice cA ks.length cc) := C7.cell 2
              have z0 := C7.frozen 2
              clear C7 hown5 hg5 hb5 G6 G5
              (repeat' (refine Mix.lex_quiet0 rfl rfl rfl ?_; intro K hK; go_big_quiet_op; go_big_quiet_on))
              ((first | refine Mix.lex_goes0 rfl rfl ?_ | refine Mix.lex_goesG rfl rfl rfl (by with_reducible rfl) rfl ?_); intro K hK; go_simp)
              refine hK _ _ (fun hne => absurd rfl hne) ?_
              clear hK K y0 z0
              simp only [Act.put, List.setIfInBounds_toArray, List.set_cons_succ, List.set_cons_zero]
              refine Mix.lex_nil ?_
              go_wp2_with fail
              go_roundw
              case rel => exact ⟨j + 1, by omega, by go_num, A', c', ks ++ [y], by rw [HKs.out, HY.out, List.take_add_one, HT.out]; simp, P7.out⟩
              case measure => simp [intOf]; omega
            · obtain rfl : j = x.2.cmds.length := by omega
              have HKd : Hid (ks = x.2.cmds.map (cmdOf ts ns stem)) := by rw [Hid, HKs.out, List.take_of_length_le (Nat.le_refl _)]
              have HR : Hid (groupF m x.2 name stem = ⟨ts, ns, ks, ph⟩) := by
                rw [Hid, HKd.out, HNd.out, HTs.out, HPh.out, ← HT0.out]
                rfl
              have k0 : wr.cell? ⟨b9, 0, none⟩ = some (.slice A2 ts.length c2) := G4.out.cs.cell 0
              have k1 : wr.cell? ⟨b9, 1, none⟩ = some (.slice nA ns.length nc) := G4.out.cs.cell 1
              have k2 : wr.cell? ⟨b9, 2, none⟩ = some (.slice cA ks.length cc) := G4.out.cs.cell 2
              have k3 : wr.cell? ⟨b9, 3, none⟩ = some (.bool ph) := G4.out.cs.cell 3
              have e0 : wr.cell? ⟨b8, 0, none⟩ = some (.slice none 0 0) := G4.out.c8.cell 0
              have e1 : wr.cell? ⟨b8, 1, none⟩ = some (.slice none 0 0) := G4.out.c8.cell 1
              have e2 : wr.cell? ⟨b8, 2, none⟩ = some (.slice none 0 0) := G4.out.c8.cell 2
              have e3 : wr.cell? ⟨b8, 3, none⟩ = some (.bool false) := G4.out.c8.cell 3
              have z0 := G4.out.c8.frozen 0
              have z1 := G4.out.c8.frozen 1
              have z2 := G4.out.c8.frozen 2
              have z3 := G4.out.c8.frozen 3
              clear hkl hlt HKs HAu
              have HO : Hid (∀ a b c d, Only (fun b => b = b8) wr ((((wr.setCell ⟨b8, 0, none⟩ a).setCell ⟨b8, 1, none⟩ b).setCell ⟨b8, 2, none⟩ c).setCell ⟨b8, 3, none⟩ d)) := fun a b c d => ((((Only.refl _ _).at_ 0 a).at_ 1 b).at_ 2 c).at_ 3 d
              have HS : Hid (∀ a b c d, Cs ((((wr.setCell ⟨b8, 0, none⟩ a).setCell ⟨b8, 1, none⟩ b).setCell ⟨b8, 2, none⟩ c).setCell ⟨b8, 3, none⟩ d) b8 grpT #[a, b, c, d]) := fun a b c d => (((G4.out.c8.set_ 0 a).set_ 1 b).set_ 2 c).set_ 3 d
              go_wp2_with fail
              have hl := load_grp (HS.out (.slice A2 ts.length c2) (.slice nA ns.length nc) (.slice cA ks.length cc) (.bool ph))
              have hO := HO.out (.slice A2 ts.length c2) (.slice nA ns.length nc) (.slice cA ks.length cc) (.bool ph)
              have hE := G4.out.ft.ext.trans hO fun q hq e => by have e : q = b8 := e; have := G4.out.h8; omega
              refine bodyPost_cell1 (p := 8) (ty := grpT) (ad := ⟨b8, 0, none⟩) rfl rfl rfl hl ?_
              rw [HR.out]
              exact ⟨⟨A2, c2, nA, nc, cA, cc⟩, rfl, G4.out.ft.keep hO hE (own_ne_cs G4.out.ft.own G4.out.c8 (by decide)), G4.out.fn.keep hO hE (own_ne_cs G4.out.fn.own G4.out.c8 (by decide)), G4.out.fc.keep hO hE (own_ne_cs G4.out.fc.own G4.out.c8 (by decide)), hE⟩
theorem idx_step {α : Type} {p : α → Bool} {l : List α} {k : Nat} {x : α} (hx : l[k]? = some x) (he : l.findIdx? p = ((l.drop k).findIdx? p).map (· + k)) :
    (p x = true → l.findIdx? p = some k) ∧ (p x = false → l.findIdx? p = ((l.drop (k + 1)).findIdx? p).map (· + (k + 1))) := by
  obtain ⟨hk, e⟩ := List.getElem?_eq_some_iff.1 hx
  rw [List.drop_eq_getElem_cons hk, e, List.findIdx?_cons] at he
  refine ⟨fun h => ?_, fun h => ?_⟩
  · rw [he, if_pos h]; simp
  · rw [he, if_neg (by rw [h]; decide), Option.map_map]
    congr 1
    funext n
    simp only [Function.comp]
    omega
theorem idx_end {α : Type} {p : α → Bool} {l : List α} (he : l.findIdx? p = ((l.drop l.length).findIdx? p).map (· + l.length)) : l.findIdx? p = none := by
  rw [he, List.drop_of_length_le (Nat.le_refl _)]; rfl
theorem idx_zero {α : Type} {p : α → Bool} {l : List α} : l.findIdx? p = ((l.drop 0).findIdx? p).map (· + 0) := by simp
set_option maxRecDepth 100000 in
theorem RExpl_c {w : World} {v : MkV} {rs : List (RulA × Rul)} {m : Mk} (h : MakeR w v rs m) (hr : m.rules.length ≤ 100) (ht : ∀ r ∈ m.rules, r.targets.length ≤ 1000) (name : Str) :
    Calls Tryz.prog 91 #[mkV v m, S name] w fun e w' => e = .returned (.int .i64 (idxI (m.rules.findIdx? fun r => inS r.targets name))) ∧ Ext w w' := by
  obtain ⟨vA, vc, rA, rc, pA, pc⟩ := v
  obtain ⟨w1, hw1⟩ : ∃ u, u = w.alloc (.cells #[.slice vA m.vars.length vc, .slice rA m.rules.length rc, .slice pA m.phony.length pc] makeT) := ⟨_, rfl⟩
  obtain ⟨g, hg⟩ : ∃ g, g = w.heap.size := ⟨_, rfl⟩
  have X1 : Hid (Ext w w1) := by rw [hw1]; exact (Only.refl No w).alloc _
  have C1 : Hid (Cs w1 g makeT #[.slice vA m.vars.length vc, .slice rA m.rules.length rc, .slice pA m.phony.length pc]) := by rw [hw1, hg]; exact Cs.new _ _ _
  have H := Lib.hid (h.ext X1.out)
  have HT := Lib.hid ht
  clear h ht
  go_enter Tryz.func91, Tryz.ntmps91
  go_upto_region 1 with fail
  rw [← hw1, ← hg]
  clear hw1 hg
  go_wp2_with fail
  go_loopw [5] (fun i wr => ∃ k : Nat, k ≤ m.rules.length ∧ i = .int .i64 k ∧ m.rules.findIdx? (fun r => inS r.targets name) = ((m.rules.drop k).findIdx? (fun r => inS r.targets name)).map (· + k) ∧ Ext w1 wr) (fun i _ => m.rules.length - (intOf i).toNat)
  case atStart => exact ⟨0, Nat.zero_le _, rfl, idx_zero, Only.refl _ _⟩
  case round =>
    obtain ⟨k, hk, rfl, hE, hx⟩ := hrel
    have XR := Lib.hid hx
    have HE := Lib.hid hE
    have k1 : wr.cell? ⟨g, 1, none⟩ = some (.slice rA m.rules.length rc) := (C1.out.keep hx id).cell 1
    clear hx hE
    by_cases hlt : k < m.rules.length
    · obtain ⟨b, o, ⟨⟨tA, tc, nA, nc, cA, cc⟩, r⟩, rfl, hx, hbl, d0, _, _⟩ := rules_get H.out.fr hlt
      have e0 : wr.cell? ⟨b, o + k * 3, none⟩ = some (.slice tA r.targets.length tc) := d0 _ XR.out
      have hmem := List.mem_of_getElem? hx
      have hr2 : m.rules[k]? = some r := by rw [← H.out.rm, List.getElem?_map, hx]; rfl
      have hS := Lib.hid (idx_step hr2 HE.out)
      have hrt : r.targets.length ≤ 1000 := HT.out r (List.mem_of_getElem? hr2)
      have HIn := Lib.hid (In_c (c := tc) ((H.out.rr _ hmem).1.ext XR.out) (by dsimp only; omega) name)
      dsimp only at HIn
      obtain ⟨q, hq⟩ : ∃ q, q = inS r.targets name := ⟨_, rfl⟩
      rw [← hq] at HIn hS
      clear hx hbl d0 hmem hr2 hq HE
      go_wp2_with fail
      refine HIn.out.mono ?_
      rintro e u ⟨rfl, hu⟩
      have XU := Lib.hid (XR.out.then_ext hu)
      clear hu HIn e0 k1
      cases q with
      | true =>
        have hS : m.rules.findIdx? (fun r => inS r.targets name) = some k := hS.out.1 (by first | trivial | rfl)
        have HS := Lib.hid hS
        clear hS
        go_wp2_with fail
        go_ret
        rw [HS.out]
        exact ⟨rfl, X1.out.then_ext XU.out⟩
      | false =>
        go_wp2_with fail
        go_roundw
        case rel => exact ⟨k + 1, by omega, by go_num, hS.out.2 (by first | trivial | rfl), XU.out⟩
        case measure => simp [intOf]; omega
    · obtain rfl : k = m.rules.length := by omega
      have HS := Lib.hid (idx_end HE.out)
      clear HE
      go_wp2_with fail
      go_ret
      rw [HS.out]
      exact ⟨rfl, X1.out.then_ext XR.out⟩
set_option maxRecDepth 100000 in
theorem RMaker_c {w : World} {A : Option Addr} {c : Nat} {os : List (RulA × Grp)} {out : List Grp} (h : GrpsR w A os out) (hr : out.length ≤ 100) (ht : ∀ g ∈ out, g.targets.length ≤ 1000) (name : Str) :
    Calls Tryz.prog 16 #[.slice A out.length c, S name] w fun e w' => e = .returned (.int .i64 (idxI (makerF out name))) ∧ Ext w w' := by
  have H := Lib.hid h
  have HT := Lib.hid ht
  clear h ht
  go_enter Tryz.func16, Tryz.ntmps16
  go_wp2_with fail
  go_loopw [5] (fun i wr => ∃ k : Nat, k ≤ out.length ∧ i = .int .i64 k ∧ out.findIdx? (fun r => inS r.targets name) = ((out.drop k).findIdx? (fun r => inS r.targets name)).map (· + k) ∧ Ext w wr) (fun i _ => out.length - (intOf i).toNat)
  case atStart => exact ⟨0, Nat.zero_le _, rfl, idx_zero, Only.refl _ _⟩
  case round =>
    obtain ⟨k, hk, rfl, hE, hx⟩ := hrel
    have XR := Lib.hid hx
    have HE := Lib.hid hE
    clear hx hE
    by_cases hlt : k < out.length
    · obtain ⟨b, o, ⟨⟨tA, tc, nA, nc, cA, cc⟩, r⟩, rfl, hx, d0, _, _, _⟩ := grps_get H.out.row hlt
      have e0 : wr.cell? ⟨b, o + k * 4, none⟩ = some (.slice tA r.targets.length tc) := d0 ⟨wr, XR.out⟩
      have hmem := List.mem_of_getElem? hx
      have hr2 : out[k]? = some r := by rw [← H.out.om, List.getElem?_map, hx]; rfl
      have hS := Lib.hid (idx_step hr2 HE.out)
      have hrt : r.targets.length ≤ 1000 := HT.out r (List.mem_of_getElem? hr2)
      have HIn := Lib.hid (In_c (c := tc) ((H.out.rr _ hmem).1.ext XR.out) (by dsimp only; omega) name)
      dsimp only at HIn
      obtain ⟨q, hq⟩ : ∃ q, q = inS r.targets name := ⟨_, rfl⟩
      rw [← hq] at HIn hS
      clear hx d0 hmem hr2 hq HE
      go_wp2_with fail
      refine HIn.out.mono ?_
      rintro e u ⟨rfl, hu⟩
      have XU := Lib.hid (XR.out.then_ext hu)
      clear hu HIn e0
      cases q with
      | true =>
        have hS : makerF out name = some k := hS.out.1 (by first | trivial | rfl)
        have HS := Lib.hid hS
        clear hS
        go_wp2_with fail
        go_ret
        rw [HS.out]
        exact ⟨rfl, XU.out⟩
      | false =>
        go_wp2_with fail
        go_roundw
        case rel => exact ⟨k + 1, by omega, by go_num, hS.out.2 (by first | trivial | rfl), XU.out⟩
        case measure => simp [intOf]; omega
    · obtain rfl : k = out.length := by omega
      have HS : Hid (makerF out name = none) := idx_end HE.out
      clear HE
      go_wp2_with fail
      go_ret
      rw [HS.out]
      exact ⟨rfl, XR.out⟩
def RulRes (w : World) : Option Grp → Ending → World → Prop
  | some g, e, w' => ∃ a : RulA, e = .returned (.tuple #[grpW (a, g), .bool true]) ∧ Fresh strF 9 w w' a.tA a.tc g.targets ∧ Fresh strF 9 w w' a.nA a.nc g.needs ∧ Fresh strF 9 w w' a.cA a.cc g.cmds ∧ Ext w w'
  | none, e, w' => e = .returned (.tuple #[.agg #[.slice none 0 0, .slice none 0 0, .slice none 0 0, .bool false], .bool false]) ∧ Ext w w'
theorem stemL_le (a b : Str) : (stemL a b).1.length ≤ b.length := by
  unfold stemL
  split
  · simp only [List.length_drop, List.length_take]; omega
  · exact Nat.zero_le _
theorem expl_idx (rs : List Rul) (n : Str) : (explF rs n = none ∧ idxI (rs.findIdx? fun r => inS r.targets n) = -1) ∨ ∃ (k : Nat) (r : Rul), rs[k]? = some r ∧ explF rs n = some r ∧ idxI (rs.findIdx? fun r => inS r.targets n) = (k : Int) := by
  unfold explF
  cases h : rs.findIdx? fun r => inS r.targets n with
  | none =>
    refine .inl ⟨?_, rfl⟩
    rw [List.findIdx?_eq_none_iff] at h
    exact List.find?_eq_none.2 fun x hx => by simp [h x hx]
  | some k =>
    obtain ⟨hk, hp, hq⟩ := List.findIdx?_eq_some_iff_getElem.1 h
    refine .inr ⟨k, rs[k], List.getElem?_eq_getElem hk, ?_, rfl⟩
    refine List.find?_eq_some_iff_getElem.2 ⟨hp, k, hk, rfl, fun j hj => by simpa using hq j hj⟩
end Go.Proofs.YtnhaekifcieeoaaGreatDoor
