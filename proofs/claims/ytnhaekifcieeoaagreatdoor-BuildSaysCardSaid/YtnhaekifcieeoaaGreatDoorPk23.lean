/- Put together: Rl3. -/
import Derived.Test.YtnhaekifcieeoaaGreatDoorPk22
namespace Go.Proofs.YtnhaekifcieeoaaGreatDoor
open Go Go.RowKit
set_option maxRecDepth 100000 in
set_option maxHeartbeats 8000000 in
theorem Ln_var1 {w : World} {v : MkV} {rs : List (RulA × Rul)} {m : Mk} {k : Nat} (hS : MakeS w v rs m) (hf : m.Fit k) (hk : k ≤ 10000) (s : Str) (hs : s.length ≤ 600) (hs0 : 0 < s.length) (k35 : ¬ s[0] = 35) (k9 : ¬ s[0] = 9) (hph : ¬ Lib.hasPrefix s phonyT = true) {i : Nat} (hc1 : fndI s eqT 0 = (i : Int)) (hc2 : i + eqT.length ≤ s.length) (hc3 : Lib.cut s eqT = (s.take i, s.drop (i + eqT.length), true)) (h5 : 5 < s.length) (g6 : (s.take 6 == phonyT) = false) :
    Calls Tryz.prog 34 #[mkV v m, S s] w (HdRes w (lineF m s)) := by
  obtain ⟨vA, vc, rA, rc, pA, pc⟩ := v
  obtain ⟨g2, hg2⟩ : ∃ g, g = w.heap.size := ⟨_, rfl⟩
  obtain ⟨w1, hw1⟩ : ∃ u, u = w.alloc (.cells #[.slice vA m.vars.length vc, .slice rA m.rules.length rc, .slice pA m.phony.length pc] makeT) := ⟨_, rfl⟩
  have x1 : Ext w w1 := by rw [hw1]; exact (Only.refl No w).alloc _
  have hc1 : Cs w1 g2 makeT #[.slice vA m.vars.length vc, .slice rA m.rules.length rc, .slice pA m.phony.length pc] := by rw [hw1, hg2]; exact Cs.new _ _ _
  obtain ⟨g4, hg4⟩ : ∃ g, g = w1.heap.size := ⟨_, rfl⟩
  obtain ⟨w2, hw2⟩ : ∃ u, u = w1.alloc (.cells #[.slice none 0 0, .slice none 0 0, .slice none 0 0] makeT) := ⟨_, rfl⟩
  have x2 : Ext w1 w2 := by rw [hw2]; exact (Only.refl No w1).alloc _
  have C4 : Hid (Cs w2 g4 makeT #[.slice none 0 0, .slice none 0 0, .slice none 0 0]) := by rw [hw2, hg4]; exact Cs.new _ _ _
  have CB := Lib.hid (hc1.keep x2 id)
  have hz : g4 = g2 + 1 := by rw [hg4, hg2, hw1]; simp
  have hz2 : w.heap.size ≤ g2 := by omega
  have hz4 : w.heap.size ≤ g4 := by omega
  have hz24 : g2 ≠ g4 := by omega
  have XB := Lib.hid (x1.then_ext x2)
  have HX : Hid (∀ u v', Ext w2 u → Only (fun b => b = g4) u v' → Ext w v') := fun u v' h1 h2 => (XB.out.then_ext h1).trans h2 fun b hb e => by have e : b = g4 := e; omega
  have HSt := Lib.hid hS
  have h := hS.here
  have H := Lib.hid h
  clear hS
  clear x1 x2 hc1
  have hr10 : m.rules.length ≤ 10 := hf.r
  have hv6 : m.vars.length ≤ 6 := hf.v
  have hp10 : m.phony.length ≤ 10000 := by have := hf.p; omega
  have HFt := Lib.hid hf
  have c0 : w2.cell? ⟨g2, 0, none⟩ = some (.slice vA m.vars.length vc) := CB.out.cell 0
  have c1 : w2.cell? ⟨g2, 1, none⟩ = some (.slice rA m.rules.length rc) := CB.out.cell 1
  have c2 : w2.cell? ⟨g2, 2, none⟩ = some (.slice pA m.phony.length pc) := CB.out.cell 2
  have X0 : Hid (Ext w2 w2) := Only.refl _ _
  clear h hf
  obtain ⟨x, hx0⟩ : ∃ x, s[0] = x := ⟨_, rfl⟩
  have hne : (s == ([] : Str)) = false := by
    cases s with
    | nil => simp at hs0
    | cons a l => rfl
  have HF : Hid (lineF m s = if x = 35 then (m, 0) else if x = 9 then cmdF m (s.drop 1) else if Lib.hasPrefix s phonyT = true then phoF m (s.drop 6) else if (Lib.cut s eqT).2.2 = true then varF m (Lib.cut s eqT).1 (Lib.cut s eqT).2.1 else headF m s) := by
    cases s with
    | nil => simp at hs0
    | cons a l =>
      have : a = x := hx0
      subst this
      exact lineF_cons m a l
  have h35 : ¬ x = 35 := by rw [← hx0]; exact k35
  have q1' : (((x.toNat : Int)) == 35) = false := (byte_eq' x 35).trans (decide_eq_false h35)
  have HF2 := Lib.hid (HF.out.trans (if_neg h35))
  clear HF h35
  have h9 : ¬ x = 9 := by rw [← hx0]; exact k9
  have q2' : (((x.toNat : Int)) == 9) = false := (byte_eq' x 9).trans (decide_eq_false h9)
  have HF3 := Lib.hid (HF2.out.trans (if_neg h9))
  clear h9 HF2
  have HF4 := Lib.hid (HF3.out.trans (if_neg hph))
  clear HF3 hph
  have HC := Lib.hid (fun v => rfind3_c s (by omega) 32 61 32 0 (Nat.zero_le _) v)
  rw [hc1] at HC
  rw [hc3] at HF4
  have HF5 : Hid (lineF m s = varF m (s.take i) (s.drop (i + 3))) := HF4.out.trans (if_pos rfl)
  have h3 : i + 3 ≤ s.length := hc2
  clear hc1 hc2 hc3 HF4
  have gi : decide ((0 : Int) ≤ (i : Int)) = true := by rw [decide_eq_true_iff]; omega
  have HV := Lib.hid (fun v => RVar_c (s.take i) (by rw [List.length_take]; omega) v)
  have HF6 : Hid (varF m (s.take i) (s.drop (i + 3)) = if varB (s.take i) = false then (m, 3) else if m.vars.length = 6 then (m, 2) else (⟨m.vars ++ [(s.take i, s.drop (i + 3))], m.rules, m.phony⟩, 0)) := rfl
  generalize varB (s.take i) = bv at HV HF6
  have g5 : decide ((5 : Int) < (s.length : Int)) = true := by rw [decide_eq_true_iff]; omega
  show Calls _ _ #[.agg #[.slice vA m.vars.length vc, .slice rA m.rules.length rc, .slice pA m.phony.length pc], S s] _ _
  go_enter Tryz.func34, Tryz.ntmps34
  go_upto_region 1 with fail
  rw [← hw1, ← hg2, ← hw2, ← hz]
  clear hw1 hg2 hw2 hg4 hz
  go_wp2_with fail
  refine (HC.out _).mono ?_
  rintro e' u1 ⟨rfl, hu⟩
  have X1 := Lib.hid hu
  clear hu c0 c1 c2 HC
  have hi0 : i ≤ s.length := by omega
  go_wp2_with fail
  refine (HV.out _).mono ?_
  rintro e' u2 ⟨rfl, hu⟩
  have X2 := Lib.hid (X1.out.then_ext hu)
  clear hu X1 HV
  cases bv
  · have HF7 := Lib.hid (HF5.out.trans (HF6.out.trans (if_pos rfl)))
    have D2 := Lib.hid (CB.out.keep X2.out id)
    have D4 := Lib.hid (C4.out.keep X2.out id)
    have q0 : u2.cell? ⟨g2, 0, none⟩ = some (.slice vA m.vars.length vc) := D2.out.cell 0
    have q1 : u2.cell? ⟨g2, 1, none⟩ = some (.slice rA m.rules.length rc) := D2.out.cell 1
    have q2 : u2.cell? ⟨g2, 2, none⟩ = some (.slice pA m.phony.length pc) := D2.out.cell 2
    have e0 : u2.cell? ⟨g4, 0, none⟩ = some (.slice none 0 0) := D4.out.cell 0
    have e1 : u2.cell? ⟨g4, 1, none⟩ = some (.slice none 0 0) := D4.out.cell 1
    have e2 : u2.cell? ⟨g4, 2, none⟩ = some (.slice none 0 0) := D4.out.cell 2
    have z0 := D4.out.frozen 0
    have z1 := D4.out.frozen 1
    have z2 := D4.out.frozen 2
    have HO : Hid (∀ a b c, Only (fun b => b = g4) u2 (((u2.setCell ⟨g4, 0, none⟩ a).setCell ⟨g4, 1, none⟩ b).setCell ⟨g4, 2, none⟩ c)) := fun a b c => (((Only.refl _ _).at_ 0 a).at_ 1 b).at_ 2 c
    have HS : Hid (∀ a b c, Cs (((u2.setCell ⟨g4, 0, none⟩ a).setCell ⟨g4, 1, none⟩ b).setCell ⟨g4, 2, none⟩ c) g4 makeT #[a, b, c]) := fun a b c => ((D4.out.set_ 0 a).set_ 1 b).set_ 2 c
    go_wp2_with fail
    have hl := load_mk (HS.out (.slice vA m.vars.length vc) (.slice rA m.rules.length rc) (.slice pA m.phony.length pc))
    refine bodyPost_cell (p := 4) (u := 5) (ty := makeT) (ad := ⟨g4, 0, none⟩) rfl rfl rfl hl ?_
    rw [HF7.out]
    exact ⟨⟨vA, vc, rA, rc, pA, pc⟩, rs, rfl, HSt.out.ext (HX.out _ _ X2.out (HO.out _ _ _)), HX.out _ _ X2.out (HO.out _ _ _)⟩
  · have HF7 := Lib.hid (HF5.out.trans (HF6.out.trans (if_neg (by simp))))
    clear HF5 HF6
    by_cases h66 : m.vars.length = 6
    · have gv : (((m.vars.length : Int)) == 6) = true := by rw [beq_iff_eq]; omega
      have gv' : decide (((m.vars.length : Int)) = 6) = true := by rw [decide_eq_true_iff]; omega
      have HF8 := Lib.hid (HF7.out.trans (if_pos h66))
      clear h66
      have D2 := Lib.hid (CB.out.keep X2.out id)
      have D4 := Lib.hid (C4.out.keep X2.out id)
      have q0 : u2.cell? ⟨g2, 0, none⟩ = some (.slice vA m.vars.length vc) := D2.out.cell 0
      have q1 : u2.cell? ⟨g2, 1, none⟩ = some (.slice rA m.rules.length rc) := D2.out.cell 1
      have q2 : u2.cell? ⟨g2, 2, none⟩ = some (.slice pA m.phony.length pc) := D2.out.cell 2
      have e0 : u2.cell? ⟨g4, 0, none⟩ = some (.slice none 0 0) := D4.out.cell 0
      have e1 : u2.cell? ⟨g4, 1, none⟩ = some (.slice none 0 0) := D4.out.cell 1
      have e2 : u2.cell? ⟨g4, 2, none⟩ = some (.slice none 0 0) := D4.out.cell 2
      have z0 := D4.out.frozen 0
      have z1 := D4.out.frozen 1
      have z2 := D4.out.frozen 2
      have HO : Hid (∀ a b c, Only (fun b => b = g4) u2 (((u2.setCell ⟨g4, 0, none⟩ a).setCell ⟨g4, 1, none⟩ b).setCell ⟨g4, 2, none⟩ c)) := fun a b c => (((Only.refl _ _).at_ 0 a).at_ 1 b).at_ 2 c
      have HS : Hid (∀ a b c, Cs (((u2.setCell ⟨g4, 0, none⟩ a).setCell ⟨g4, 1, none⟩ b).setCell ⟨g4, 2, none⟩ c) g4 makeT #[a, b, c]) := fun a b c => ((D4.out.set_ 0 a).set_ 1 b).set_ 2 c
      go_wp2_with fail
      have hl := load_mk (HS.out (.slice vA m.vars.length vc) (.slice rA m.rules.length rc) (.slice pA m.phony.length pc))
      refine bodyPost_cell (p := 4) (u := 5) (ty := makeT) (ad := ⟨g4, 0, none⟩) rfl rfl rfl hl ?_
      rw [HF8.out]
      exact ⟨⟨vA, vc, rA, rc, pA, pc⟩, rs, rfl, HSt.out.ext (HX.out _ _ X2.out (HO.out _ _ _)), HX.out _ _ X2.out (HO.out _ _ _)⟩
    · have gv : (((m.vars.length : Int)) == 6) = false := by rw [beq_eq_false_iff_ne]; omega
      have gv' : decide (((m.vars.length : Int)) = 6) = false := by rw [decide_eq_false_iff_not]; omega
      have HFE := Lib.hid (HF7.out.trans (if_neg h66))
      have d0 : u2.cell? ⟨g2, 0, none⟩ = some (.slice vA m.vars.length vc) := (CB.out.keep X2.out id).cell 0
      have CW := Lib.hid (CB.out.keep X2.out id)
      have DW := Lib.hid (C4.out.keep X2.out id)
      have HRd : Hid (∀ u, Ext u2 u → SlR fileF u vA m.vars.length m.vars) := fun u hu => H.out.fv.ext ((XB.out.then_ext X2.out).then_ext hu)
      have hi1 : i ≤ s.length := by omega
      go_upto_region 31 with fail
      refine Mix.wp_tree 15 [1, 2, 11, 12, 14] (Cl u2 (fun q => q = g2)) rfl (by kernel_rfl) (by kernel_rfl) (Cl.of (Only.refl _ _).drew) ?_
      obtain ⟨μ0, hμ0⟩ : ∃ u, u = u2.drew := ⟨_, rfl⟩
      have xμ : Ext u2 μ0 := by rw [hμ0]; exact (Only.refl No u2).drew
      have cμ := CW.out.keep xμ id
      rw [← hμ0]
      clear hμ0 d0
      (refine Mix.tree_quiet (i := 0) (by kernel_rfl) rfl rfl rfl rfl ?_; intro K hK; go_big_quiet_op; go_big_quiet_on); (refine Mix.tree_quiet (i := 3) (by kernel_rfl) rfl rfl rfl rfl ?_; intro K hK; go_big_quiet_op; go_big_quiet_on); (refine Mix.tree_quiet (i := 4) (by kernel_rfl) rfl rfl rfl rfl ?_; intro K hK; go_big_quiet_op; go_big_quiet_on); (refine Mix.tree_quiet (i := 5) (by kernel_rfl) rfl rfl rfl rfl ?_; intro K hK; go_big_quiet_op; go_big_quiet_on); (refine Mix.tree_quiet (i := 6) (by kernel_rfl) rfl rfl rfl rfl ?_; intro K hK; go_big_quiet_op; go_big_quiet_on); (refine Mix.tree_quiet (i := 7) (by kernel_rfl) rfl rfl rfl rfl ?_; intro K hK; go_big_quiet_op; go_big_quiet_on); (refine Mix.tree_quiet (i := 8) (by kernel_rfl) rfl rfl rfl rfl ?_; intro K hK; go_big_quiet_op; go_big_quiet_on); (refine Mix.tree_quiet (i := 9) (by kernel_rfl) rfl rfl rfl rfl ?_; intro K hK; go_big_quiet_op; go_big_quiet_on); (refine Mix.tree_quiet (i := 10) (by kernel_rfl) rfl rfl rfl rfl ?_; intro K hK; go_big_quiet_op; go_big_quiet_on)
      refine Mix.tree_two (i := 1) (j := 11) (by kernel_rfl) (by kernel_rfl) rfl rfl rfl rfl rfl rfl ?_ ?_
      · intro K hK
        have dμ3 : μ0.cell? ⟨g2, 0, none⟩ = some (.slice vA m.vars.length vc) := cμ.cell 0
        go_simp
        refine hK _ _ (Cl.of xμ.any) ?_
        clear hK K dμ3
        simp only [Act.put, List.setIfInBounds_toArray, List.set_cons_succ, List.set_cons_zero]
        refine Mix.tree_two (i := 2) (j := 11) (by kernel_rfl) (by kernel_rfl) rfl rfl rfl rfl rfl rfl ?_ ?_
        · intro K hK
          refine goes_append (v := .slice none 0 0) (n := 0) (xs := []) vr_ty rfl rfl rfl (World.ownsRow_nil _ _ _ _) ((HRd.out _ xμ).rd (by decide)) (va_enc1 m.vars) (by omega) ?_
          intro A6 c6 w6 hown6 hg6 hb6
          have F6 : Fresh fileF varT μ0 w6 A6 c6 m.vars := (Fresh.nil fileF varT μ0 μ0 (Only.refl _ _)).grow (ys := m.vars) rfl hown6 hg6 hb6
          rw [Nat.zero_add]
          have x6 : Ext u2 w6 := xμ.then_ext F6.ext
          refine hK _ _ (Cl.of x6.any) ?_
          clear hK K hown6 hg6 hb6
          simp only [Act.put, List.setIfInBounds_toArray, List.set_cons_succ, List.set_cons_zero]
          (refine Mix.tree_one (i := 11) (by kernel_rfl) (by kernel_rfl) rfl rfl rfl ?_; intro K hK; go_simp)
          obtain ⟨wb, hwb⟩ : ∃ u, u = (w6).alloc (.cells #[S (s.take i), S (s.drop (i + 3))] varT) := ⟨_, rfl⟩
          obtain ⟨gb, hgb⟩ : ∃ g, g = (w6).heap.size := ⟨_, rfl⟩
          have hCb : Cs wb gb varT #[S (s.take i), S (s.drop (i + 3))] := by rw [hwb, hgb]; exact Cs.new _ _ _
          have xb : Ext (w6) wb := by rw [hwb]; exact (Only.refl No _).alloc _
          rw [← hwb, ← hgb]
          refine hK _ _ (Cl.of (x6.then_ext xb).any) ?_
          clear hK K hwb hgb
          simp only [Act.put, List.setIfInBounds_toArray, List.set_cons_succ, List.set_cons_zero]
          have F6b := F6.on xb
          refine Mix.tree_one (i := 12) (by kernel_rfl) (by kernel_rfl) rfl rfl rfl ?_
          intro K hK
          refine goes_append (v := .slice A6 m.vars.length c6) (n := m.vars.length) (xs := m.vars.flatMap fileF.enc) vr_ty rfl rfl rfl F6b.own (rd_cs (cs := [S (s.take i), S (s.drop (i + 3))]) hCb) (by simp [Value.oneCell']) (by omega) ?_
          intro A7 c7' w7 hown7 hg7 hb7
          have F7 : Fresh fileF varT μ0 w7 A7 c7' (m.vars ++ [(s.take i, s.drop (i + 3))]) := F6b.grow (m := 1) (ys := [(s.take i, s.drop (i + 3))]) rfl hown7 hg7 hb7
          have x7 : Ext u2 w7 := xμ.then_ext F7.ext
          refine hK _ _ (Cl.of x7.any) ?_
          clear hown7 hg7 hb7 F6b F6 x6 xb hCb
          clear hK K
          simp only [Act.put, List.setIfInBounds_toArray, List.set_cons_succ, List.set_cons_zero]
          have C2e : Cs w7 g2 makeT #[.slice vA m.vars.length vc, .slice rA m.rules.length rc, .slice pA m.phony.length pc] := CW.out.keep x7 id
          have C4e : Cs w7 g4 makeT #[.slice none 0 0, .slice none 0 0, .slice none 0 0] := DW.out.keep x7 id
          have y0 : w7.cell? ⟨g2, 0, none⟩ = some (.slice vA m.vars.length vc) := C2e.cell 0
          have yz := C2e.frozen 0
          obtain ⟨w8, hw8⟩ : ∃ u, u = w7.setCell ⟨g2, 0, none⟩ (.slice A7 (m.vars.length + 1 : Nat) c7') := ⟨_, rfl⟩
          have O8 : Only (fun q => q = g2) w7 w8 := by rw [hw8]; exact (Only.refl _ _).at_ 0 _
          have C8 : Cs w8 g2 makeT #[.slice A7 (m.vars.length + 1 : Nat) c7', .slice rA m.rules.length rc, .slice pA m.phony.length pc] := by rw [hw8]; exact C2e.set_ 0 _
          have D8 : Cs w8 g4 makeT #[.slice none 0 0, .slice none 0 0, .slice none 0 0] := C4e.keep O8 (fun e => hz24 e.symm)
          (refine Mix.tree_quiet (i := 13) (by kernel_rfl) rfl rfl rfl rfl ?_; intro K hK; go_big_quiet_op; go_big_quiet_on)
          (refine Mix.tree_one (i := 14) (by kernel_rfl) (by kernel_rfl) rfl rfl rfl ?_; intro K hK; go_simp)
          rw [← hw8]
          refine hK _ _ (Cl.of (x7.any.trans O8 fun q _ e => e)) ?_
          clear hK K hw8 y0 yz
          simp only [Act.put, List.setIfInBounds_toArray, List.set_cons_succ, List.set_cons_zero]
          refine Mix.tree_nil ?_
          have q0 : w8.cell? ⟨g2, 0, none⟩ = some (.slice A7 (m.vars.length + 1 : Nat) c7') := C8.cell 0
          have q1 : w8.cell? ⟨g2, 1, none⟩ = some (.slice rA m.rules.length rc) := C8.cell 1
          have q2 : w8.cell? ⟨g2, 2, none⟩ = some (.slice pA m.phony.length pc) := C8.cell 2
          have e0 : w8.cell? ⟨g4, 0, none⟩ = some (.slice none 0 0) := D8.cell 0
          have e1 : w8.cell? ⟨g4, 1, none⟩ = some (.slice none 0 0) := D8.cell 1
          have e2 : w8.cell? ⟨g4, 2, none⟩ = some (.slice none 0 0) := D8.cell 2
          have z0 := D8.frozen 0
          have z1 := D8.frozen 1
          have z2 := D8.frozen 2
          have HO : Hid (∀ a b c, Only (fun b => b = g4) w8 (((w8.setCell ⟨g4, 0, none⟩ a).setCell ⟨g4, 1, none⟩ b).setCell ⟨g4, 2, none⟩ c)) := fun a b c => (((Only.refl _ _).at_ 0 a).at_ 1 b).at_ 2 c
          have HS : Hid (∀ a b c, Cs (((w8.setCell ⟨g4, 0, none⟩ a).setCell ⟨g4, 1, none⟩ b).setCell ⟨g4, 2, none⟩ c) g4 makeT #[a, b, c]) := fun a b c => ((D8.set_ 0 a).set_ 1 b).set_ 2 c
          have HFin : Hid (∀ wf, Only (fun q => q = g4) w8 wf → HdRes w (⟨m.vars ++ [(s.take i, s.drop (i + 3))], m.rules, m.phony⟩, 0) (.returned (.tuple #[.agg #[.slice A7 (m.vars.length + 1 : Nat) c7', .slice rA m.rules.length rc, .slice pA m.phony.length pc], .int .i64 0])) wf) := fun wf h9 =>
            va_done (w7 := w7) (w8 := w8) (g2 := g2) (g4 := g4) HSt.out hz2 hz4 ((XB.out.then_ext X2.out).then_ext x7) F7.own C2e O8 D8 h9
          clear O8 C8 D8 C2e C4e F7 x7 xμ cμ
          go_wp2_with fail
          have hl := load_mk (HS.out (.slice A7 (m.vars.length + 1 : Nat) c7') (.slice rA m.rules.length rc) (.slice pA m.phony.length pc))
          refine bodyPost_cell (p := 4) (u := 5) (ty := makeT) (ad := ⟨g4, 0, none⟩) rfl rfl rfl hl ?_
          rw [HFE.out]
          obtain ⟨v', rs', he', hM', hE'⟩ := HFin.out _ (HO.out (.slice A7 (m.vars.length + 1 : Nat) c7') (.slice rA m.rules.length rc) (.slice pA m.phony.length pc))
          exact ⟨v', rs', he', hM', hE'⟩
        · intro K hK
          go_simp
          obtain ⟨wb, hwb⟩ : ∃ u, u = (μ0).alloc (.cells #[S (s.take i), S (s.drop (i + 3))] varT) := ⟨_, rfl⟩
          obtain ⟨gb, hgb⟩ : ∃ g, g = (μ0).heap.size := ⟨_, rfl⟩
          have hCb : Cs wb gb varT #[S (s.take i), S (s.drop (i + 3))] := by rw [hwb, hgb]; exact Cs.new _ _ _
          have xb : Ext (μ0) wb := by rw [hwb]; exact (Only.refl No _).alloc _
          rw [← hwb, ← hgb]
          refine hK _ _ (Cl.of (xμ.then_ext xb).any) ?_
          clear hK K hwb hgb
          simp only [Act.put, List.setIfInBounds_toArray, List.set_cons_succ, List.set_cons_zero]
          refine Mix.tree_one (i := 2) (by kernel_rfl) (by kernel_rfl) rfl rfl rfl ?_
          intro K hK
          refine goes_append (v := .slice none 0 0) (n := 0) (xs := []) vr_ty rfl rfl rfl (World.ownsRow_nil _ _ _ _) ((HRd.out _ (xμ.then_ext xb)).rd (by decide)) (va_enc1 m.vars) (by omega) ?_
          intro A6 c6 w6 hown6 hg6 hb6
          have F6 : Fresh fileF varT wb w6 A6 c6 m.vars := (Fresh.nil fileF varT wb wb (Only.refl _ _)).grow (ys := m.vars) rfl hown6 hg6 hb6
          rw [Nat.zero_add]
          have x6 : Ext u2 w6 := (xμ.then_ext xb).then_ext F6.ext
          have hCb6 := hCb.keep F6.ext id
          refine hK _ _ (Cl.of x6.any) ?_
          clear hK K hown6 hg6 hb6
          simp only [Act.put, List.setIfInBounds_toArray, List.set_cons_succ, List.set_cons_zero]
          refine Mix.tree_one (i := 12) (by kernel_rfl) (by kernel_rfl) rfl rfl rfl ?_
          intro K hK
          refine goes_append (v := .slice A6 m.vars.length c6) (n := m.vars.length) (xs := m.vars.flatMap fileF.enc) vr_ty rfl rfl rfl F6.own (rd_cs (cs := [S (s.take i), S (s.drop (i + 3))]) hCb6) (by simp [Value.oneCell']) (by omega) ?_
          intro A7 c7' w7 hown7 hg7 hb7
          have F7 : Fresh fileF varT wb w7 A7 c7' (m.vars ++ [(s.take i, s.drop (i + 3))]) := F6.grow (m := 1) (ys := [(s.take i, s.drop (i + 3))]) rfl hown7 hg7 hb7
          have x7 : Ext u2 w7 := (xμ.then_ext xb).then_ext F7.ext
          refine hK _ _ (Cl.of x7.any) ?_
          clear hown7 hg7 hb7 F6 x6 xb hCb hCb6
          clear hK K
          simp only [Act.put, List.setIfInBounds_toArray, List.set_cons_succ, List.set_cons_zero]
          have C2e : Cs w7 g2 makeT #[.slice vA m.vars.length vc, .slice rA m.rules.length rc, .slice pA m.phony.length pc] := CW.out.keep x7 id
          have C4e : Cs w7 g4 makeT #[.slice none 0 0, .slice none 0 0, .slice none 0 0] := DW.out.keep x7 id
          have y0 : w7.cell? ⟨g2, 0, none⟩ = some (.slice vA m.vars.length vc) := C2e.cell 0
          have yz := C2e.frozen 0
          obtain ⟨w8, hw8⟩ : ∃ u, u = w7.setCell ⟨g2, 0, none⟩ (.slice A7 (m.vars.length + 1 : Nat) c7') := ⟨_, rfl⟩
          have O8 : Only (fun q => q = g2) w7 w8 := by rw [hw8]; exact (Only.refl _ _).at_ 0 _
          have C8 : Cs w8 g2 makeT #[.slice A7 (m.vars.length + 1 : Nat) c7', .slice rA m.rules.length rc, .slice pA m.phony.length pc] := by rw [hw8]; exact C2e.set_ 0 _
          have D8 : Cs w8 g4 makeT #[.slice none 0 0, .slice none 0 0, .slice none 0 0] := C4e.keep O8 (fun e => hz24 e.symm)
          (refine Mix.tree_quiet (i := 13) (by kernel_rfl) rfl rfl rfl rfl ?_; intro K hK; go_big_quiet_op; go_big_quiet_on)
          (refine Mix.tree_one (i := 14) (by kernel_rfl) (by kernel_rfl) rfl rfl rfl ?_; intro K hK; go_simp)
          rw [← hw8]
          refine hK _ _ (Cl.of (x7.any.trans O8 fun q _ e => e)) ?_
          clear hK K hw8 y0 yz
          simp only [Act.put, List.setIfInBounds_toArray, List.set_cons_succ, List.set_cons_zero]
          refine Mix.tree_nil ?_
          have q0 : w8.cell? ⟨g2, 0, none⟩ = some (.slice A7 (m.vars.length + 1 : Nat) c7') := C8.cell 0
          have q1 : w8.cell? ⟨g2, 1, none⟩ = some (.slice rA m.rules.length rc) := C8.cell 1
          have q2 : w8.cell? ⟨g2, 2, none⟩ = some (.slice pA m.phony.length pc) := C8.cell 2
          have e0 : w8.cell? ⟨g4, 0, none⟩ = some (.slice none 0 0) := D8.cell 0
          have e1 : w8.cell? ⟨g4, 1, none⟩ = some (.slice none 0 0) := D8.cell 1
          have e2 : w8.cell? ⟨g4, 2, none⟩ = some (.slice none 0 0) := D8.cell 2
          have z0 := D8.frozen 0
          have z1 := D8.frozen 1
          have z2 := D8.frozen 2
          have HO : Hid (∀ a b c, Only (fun b => b = g4) w8 (((w8.setCell ⟨g4, 0, none⟩ a).setCell ⟨g4, 1, none⟩ b).setCell ⟨g4, 2, none⟩ c)) := fun a b c => (((Only.refl _ _).at_ 0 a).at_ 1 b).at_ 2 c
          have HS : Hid (∀ a b c, Cs (((w8.setCell ⟨g4, 0, none⟩ a).setCell ⟨g4, 1, none⟩ b).setCell ⟨g4, 2, none⟩ c) g4 makeT #[a, b, c]) := fun a b c => ((D8.set_ 0 a).set_ 1 b).set_ 2 c
          have HFin : Hid (∀ wf, Only (fun q => q = g4) w8 wf → HdRes w (⟨m.vars ++ [(s.take i, s.drop (i + 3))], m.rules, m.phony⟩, 0) (.returned (.tuple #[.agg #[.slice A7 (m.vars.length + 1 : Nat) c7', .slice rA m.rules.length rc, .slice pA m.phony.length pc], .int .i64 0])) wf) := fun wf h9 =>
            va_done (w7 := w7) (w8 := w8) (g2 := g2) (g4 := g4) HSt.out hz2 hz4 ((XB.out.then_ext X2.out).then_ext x7) F7.own C2e O8 D8 h9
          clear O8 C8 D8 C2e C4e F7 x7 xμ cμ
          go_wp2_with fail
          have hl := load_mk (HS.out (.slice A7 (m.vars.length + 1 : Nat) c7') (.slice rA m.rules.length rc) (.slice pA m.phony.length pc))
          refine bodyPost_cell (p := 4) (u := 5) (ty := makeT) (ad := ⟨g4, 0, none⟩) rfl rfl rfl hl ?_
          rw [HFE.out]
          obtain ⟨v', rs', he', hM', hE'⟩ := HFin.out _ (HO.out (.slice A7 (m.vars.length + 1 : Nat) c7') (.slice rA m.rules.length rc) (.slice pA m.phony.length pc))
          exact ⟨v', rs', he', hM', hE'⟩
      · intro K hK
        go_simp
        obtain ⟨wb, hwb⟩ : ∃ u, u = (μ0).alloc (.cells #[S (s.take i), S (s.drop (i + 3))] varT) := ⟨_, rfl⟩
        obtain ⟨gb, hgb⟩ : ∃ g, g = (μ0).heap.size := ⟨_, rfl⟩
        have hCb : Cs wb gb varT #[S (s.take i), S (s.drop (i + 3))] := by rw [hwb, hgb]; exact Cs.new _ _ _
        have xb : Ext (μ0) wb := by rw [hwb]; exact (Only.refl No _).alloc _
        rw [← hwb, ← hgb]
        refine hK _ _ (Cl.of (xμ.then_ext xb).any) ?_
        clear hK K hwb hgb
        simp only [Act.put, List.setIfInBounds_toArray, List.set_cons_succ, List.set_cons_zero]
        have dμ3 : wb.cell? ⟨g2, 0, none⟩ = some (.slice vA m.vars.length vc) := (cμ.keep xb id).cell 0
        (refine Mix.tree_one (i := 1) (by kernel_rfl) (by kernel_rfl) rfl rfl rfl ?_; intro K hK; go_simp)
        refine hK _ _ (Cl.of (xμ.then_ext xb).any) ?_
        clear hK K dμ3
        simp only [Act.put, List.setIfInBounds_toArray, List.set_cons_succ, List.set_cons_zero]
        refine Mix.tree_one (i := 2) (by kernel_rfl) (by kernel_rfl) rfl rfl rfl ?_
        intro K hK
        refine goes_append (v := .slice none 0 0) (n := 0) (xs := []) vr_ty rfl rfl rfl (World.ownsRow_nil _ _ _ _) ((HRd.out _ (xμ.then_ext xb)).rd (by decide)) (va_enc1 m.vars) (by omega) ?_
        intro A6 c6 w6 hown6 hg6 hb6
        have F6 : Fresh fileF varT wb w6 A6 c6 m.vars := (Fresh.nil fileF varT wb wb (Only.refl _ _)).grow (ys := m.vars) rfl hown6 hg6 hb6
        rw [Nat.zero_add]
        have x6 : Ext u2 w6 := (xμ.then_ext xb).then_ext F6.ext
        have hCb6 := hCb.keep F6.ext id
        refine hK _ _ (Cl.of x6.any) ?_
        clear hK K hown6 hg6 hb6
        simp only [Act.put, List.setIfInBounds_toArray, List.set_cons_succ, List.set_cons_zero]
        refine Mix.tree_one (i := 12) (by kernel_rfl) (by kernel_rfl) rfl rfl rfl ?_
        intro K hK
        refine goes_append (v := .slice A6 m.vars.length c6) (n := m.vars.length) (xs := m.vars.flatMap fileF.enc) vr_ty rfl rfl rfl F6.own (rd_cs (cs := [S (s.take i), S (s.drop (i + 3))]) hCb6) (by simp [Value.oneCell']) (by omega) ?_
        intro A7 c7' w7 hown7 hg7 hb7
        have F7 : Fresh fileF varT wb w7 A7 c7' (m.vars ++ [(s.take i, s.drop (i + 3))]) := F6.grow (m := 1) (ys := [(s.take i, s.drop (i + 3))]) rfl hown7 hg7 hb7
        have x7 : Ext u2 w7 := (xμ.then_ext xb).then_ext F7.ext
        refine hK _ _ (Cl.of x7.any) ?_
        clear hown7 hg7 hb7 F6 x6 xb hCb hCb6
        clear hK K
        simp only [Act.put, List.setIfInBounds_toArray, List.set_cons_succ, List.set_cons_zero]
        have C2e : Cs w7 g2 makeT #[.slice vA m.vars.length vc, .slice rA m.rules.length rc, .slice pA m.phony.length pc] := CW.out.keep x7 id
        have C4e : Cs w7 g4 makeT #[.slice none 0 0, .slice none 0 0, .slice none 0 0] := DW.out.keep x7 id
        have y0 : w7.cell? ⟨g2, 0, none⟩ = some (.slice vA m.vars.length vc) := C2e.cell 0
        have yz := C2e.frozen 0
        obtain ⟨w8, hw8⟩ : ∃ u, u = w7.setCell ⟨g2, 0, none⟩ (.slice A7 (m.vars.length + 1 : Nat) c7') := ⟨_, rfl⟩
        have O8 : Only (fun q => q = g2) w7 w8 := by rw [hw8]; exact (Only.refl _ _).at_ 0 _
        have C8 : Cs w8 g2 makeT #[.slice A7 (m.vars.length + 1 : Nat) c7', .slice rA m.rules.length rc, .slice pA m.phony.length pc] := by rw [hw8]; exact C2e.set_ 0 _
        have D8 : Cs w8 g4 makeT #[.slice none 0 0, .slice none 0 0, .slice none 0 0] := C4e.keep O8 (fun e => hz24 e.symm)
        (refine Mix.tree_quiet (i := 13) (by kernel_rfl) rfl rfl rfl rfl ?_; intro K hK; go_big_quiet_op; go_big_quiet_on)
        (refine Mix.tree_one (i := 14) (by kernel_rfl) (by kernel_rfl) rfl rfl rfl ?_; intro K hK; go_simp)
        rw [← hw8]
        refine hK _ _ (Cl.of (x7.any.trans O8 fun q _ e => e)) ?_
        clear hK K hw8 y0 yz
        simp only [Act.put, List.setIfInBounds_toArray, List.set_cons_succ, List.set_cons_zero]
        refine Mix.tree_nil ?_
        have q0 : w8.cell? ⟨g2, 0, none⟩ = some (.slice A7 (m.vars.length + 1 : Nat) c7') := C8.cell 0
        have q1 : w8.cell? ⟨g2, 1, none⟩ = some (.slice rA m.rules.length rc) := C8.cell 1
        have q2 : w8.cell? ⟨g2, 2, none⟩ = some (.slice pA m.phony.length pc) := C8.cell 2
        have e0 : w8.cell? ⟨g4, 0, none⟩ = some (.slice none 0 0) := D8.cell 0
        have e1 : w8.cell? ⟨g4, 1, none⟩ = some (.slice none 0 0) := D8.cell 1
        have e2 : w8.cell? ⟨g4, 2, none⟩ = some (.slice none 0 0) := D8.cell 2
        have z0 := D8.frozen 0
        have z1 := D8.frozen 1
        have z2 := D8.frozen 2
        have HO : Hid (∀ a b c, Only (fun b => b = g4) w8 (((w8.setCell ⟨g4, 0, none⟩ a).setCell ⟨g4, 1, none⟩ b).setCell ⟨g4, 2, none⟩ c)) := fun a b c => (((Only.refl _ _).at_ 0 a).at_ 1 b).at_ 2 c
        have HS : Hid (∀ a b c, Cs (((w8.setCell ⟨g4, 0, none⟩ a).setCell ⟨g4, 1, none⟩ b).setCell ⟨g4, 2, none⟩ c) g4 makeT #[a, b, c]) := fun a b c => ((D8.set_ 0 a).set_ 1 b).set_ 2 c
        have HFin : Hid (∀ wf, Only (fun q => q = g4) w8 wf → HdRes w (⟨m.vars ++ [(s.take i, s.drop (i + 3))], m.rules, m.phony⟩, 0) (.returned (.tuple #[.agg #[.slice A7 (m.vars.length + 1 : Nat) c7', .slice rA m.rules.length rc, .slice pA m.phony.length pc], .int .i64 0])) wf) := fun wf h9 =>
          va_done (w7 := w7) (w8 := w8) (g2 := g2) (g4 := g4) HSt.out hz2 hz4 ((XB.out.then_ext X2.out).then_ext x7) F7.own C2e O8 D8 h9
        clear O8 C8 D8 C2e C4e F7 x7 xμ cμ
        go_wp2_with fail
        have hl := load_mk (HS.out (.slice A7 (m.vars.length + 1 : Nat) c7') (.slice rA m.rules.length rc) (.slice pA m.phony.length pc))
        refine bodyPost_cell (p := 4) (u := 5) (ty := makeT) (ad := ⟨g4, 0, none⟩) rfl rfl rfl hl ?_
        rw [HFE.out]
        obtain ⟨v', rs', he', hM', hE'⟩ := HFin.out _ (HO.out (.slice A7 (m.vars.length + 1 : Nat) c7') (.slice rA m.rules.length rc) (.slice pA m.phony.length pc))
        exact ⟨v', rs', he', hM', hE'⟩
set_option maxRecDepth 100000 in
set_option maxHeartbeats 8000000 in
theorem Ln_var0 {w : World} {v : MkV} {rs : List (RulA × Rul)} {m : Mk} {k : Nat} (hS : MakeS w v rs m) (hf : m.Fit k) (hk : k ≤ 10000) (s : Str) (hs : s.length ≤ 600) (hs0 : 0 < s.length) (k35 : ¬ s[0] = 35) (k9 : ¬ s[0] = 9) (hph : ¬ Lib.hasPrefix s phonyT = true) {i : Nat} (hc1 : fndI s eqT 0 = (i : Int)) (hc2 : i + eqT.length ≤ s.length) (hc3 : Lib.cut s eqT = (s.take i, s.drop (i + eqT.length), true)) (h5 : ¬ 5 < s.length) :
    Calls Tryz.prog 34 #[mkV v m, S s] w (HdRes w (lineF m s)) := by
  obtain ⟨vA, vc, rA, rc, pA, pc⟩ := v
  obtain ⟨g2, hg2⟩ : ∃ g, g = w.heap.size := ⟨_, rfl⟩
  obtain ⟨w1, hw1⟩ : ∃ u, u = w.alloc (.cells #[.slice vA m.vars.length vc, .slice rA m.rules.length rc, .slice pA m.phony.length pc] makeT) := ⟨_, rfl⟩
  have x1 : Ext w w1 := by rw [hw1]; exact (Only.refl No w).alloc _
  have hc1 : Cs w1 g2 makeT #[.slice vA m.vars.length vc, .slice rA m.rules.length rc, .slice pA m.phony.length pc] := by rw [hw1, hg2]; exact Cs.new _ _ _
  obtain ⟨g4, hg4⟩ : ∃ g, g = w1.heap.size := ⟨_, rfl⟩
  obtain ⟨w2, hw2⟩ : ∃ u, u = w1.alloc (.cells #[.slice none 0 0, .slice none 0 0, .slice none 0 0] makeT) := ⟨_, rfl⟩
  have x2 : Ext w1 w2 := by rw [hw2]; exact (Only.refl No w1).alloc _
  have C4 : Hid (Cs w2 g4 makeT #[.slice none 0 0, .slice none 0 0, .slice none 0 0]) := by rw [hw2, hg4]; exact Cs.new _ _ _
  have CB := Lib.hid (hc1.keep x2 id)
  have hz : g4 = g2 + 1 := by rw [hg4, hg2, hw1]; simp
  have hz2 : w.heap.size ≤ g2 := by omega
  have hz4 : w.heap.size ≤ g4 := by omega
  have hz24 : g2 ≠ g4 := by omega
  have XB := Lib.hid (x1.then_ext x2)
  have HX : Hid (∀ u v', Ext w2 u → Only (fun b => b = g4) u v' → Ext w v') := fun u v' h1 h2 => (XB.out.then_ext h1).trans h2 fun b hb e => by have e : b = g4 := e; omega
  have HSt := Lib.hid hS
  have h := hS.here
  have H := Lib.hid h
  clear hS
  clear x1 x2 hc1
  have hr10 : m.rules.length ≤ 10 := hf.r
  have hv6 : m.vars.length ≤ 6 := hf.v
  have hp10 : m.phony.length ≤ 10000 := by have := hf.p; omega
  have HFt := Lib.hid hf
  have c0 : w2.cell? ⟨g2, 0, none⟩ = some (.slice vA m.vars.length vc) := CB.out.cell 0
  have c1 : w2.cell? ⟨g2, 1, none⟩ = some (.slice rA m.rules.length rc) := CB.out.cell 1
  have c2 : w2.cell? ⟨g2, 2, none⟩ = some (.slice pA m.phony.length pc) := CB.out.cell 2
  have X0 : Hid (Ext w2 w2) := Only.refl _ _
  clear h hf
  obtain ⟨x, hx0⟩ : ∃ x, s[0] = x := ⟨_, rfl⟩
  have hne : (s == ([] : Str)) = false := by
    cases s with
    | nil => simp at hs0
    | cons a l => rfl
  have HF : Hid (lineF m s = if x = 35 then (m, 0) else if x = 9 then cmdF m (s.drop 1) else if Lib.hasPrefix s phonyT = true then phoF m (s.drop 6) else if (Lib.cut s eqT).2.2 = true then varF m (Lib.cut s eqT).1 (Lib.cut s eqT).2.1 else headF m s) := by
    cases s with
    | nil => simp at hs0
    | cons a l =>
      have : a = x := hx0
      subst this
      exact lineF_cons m a l
  have h35 : ¬ x = 35 := by rw [← hx0]; exact k35
  have q1' : (((x.toNat : Int)) == 35) = false := (byte_eq' x 35).trans (decide_eq_false h35)
  have HF2 := Lib.hid (HF.out.trans (if_neg h35))
  clear HF h35
  have h9 : ¬ x = 9 := by rw [← hx0]; exact k9
  have q2' : (((x.toNat : Int)) == 9) = false := (byte_eq' x 9).trans (decide_eq_false h9)
  have HF3 := Lib.hid (HF2.out.trans (if_neg h9))
  clear h9 HF2
  have HF4 := Lib.hid (HF3.out.trans (if_neg hph))
  clear HF3 hph
  have HC := Lib.hid (fun v => rfind3_c s (by omega) 32 61 32 0 (Nat.zero_le _) v)
  rw [hc1] at HC
  rw [hc3] at HF4
  have HF5 : Hid (lineF m s = varF m (s.take i) (s.drop (i + 3))) := HF4.out.trans (if_pos rfl)
  have h3 : i + 3 ≤ s.length := hc2
  clear hc1 hc2 hc3 HF4
  have gi : decide ((0 : Int) ≤ (i : Int)) = true := by rw [decide_eq_true_iff]; omega
  have HV := Lib.hid (fun v => RVar_c (s.take i) (by rw [List.length_take]; omega) v)
  have HF6 : Hid (varF m (s.take i) (s.drop (i + 3)) = if varB (s.take i) = false then (m, 3) else if m.vars.length = 6 then (m, 2) else (⟨m.vars ++ [(s.take i, s.drop (i + 3))], m.rules, m.phony⟩, 0)) := rfl
  generalize varB (s.take i) = bv at HV HF6
  have g5 : decide ((5 : Int) < (s.length : Int)) = false := by rw [decide_eq_false_iff_not]; omega
  show Calls _ _ #[.agg #[.slice vA m.vars.length vc, .slice rA m.rules.length rc, .slice pA m.phony.length pc], S s] _ _
  go_enter Tryz.func34, Tryz.ntmps34
  go_upto_region 1 with fail
  rw [← hw1, ← hg2, ← hw2, ← hz]
  clear hw1 hg2 hw2 hg4 hz
  go_wp2_with fail
  refine (HC.out _).mono ?_
  rintro e' u1 ⟨rfl, hu⟩
  have X1 := Lib.hid hu
  clear hu c0 c1 c2 HC
  have hi0 : i ≤ s.length := by omega
  go_wp2_with fail
  refine (HV.out _).mono ?_
  rintro e' u2 ⟨rfl, hu⟩
  have X2 := Lib.hid (X1.out.then_ext hu)
  clear hu X1 HV
  cases bv
  · have HF7 := Lib.hid (HF5.out.trans (HF6.out.trans (if_pos rfl)))
    have D2 := Lib.hid (CB.out.keep X2.out id)
    have D4 := Lib.hid (C4.out.keep X2.out id)
    have q0 : u2.cell? ⟨g2, 0, none⟩ = some (.slice vA m.vars.length vc) := D2.out.cell 0
    have q1 : u2.cell? ⟨g2, 1, none⟩ = some (.slice rA m.rules.length rc) := D2.out.cell 1
    have q2 : u2.cell? ⟨g2, 2, none⟩ = some (.slice pA m.phony.length pc) := D2.out.cell 2
    have e0 : u2.cell? ⟨g4, 0, none⟩ = some (.slice none 0 0) := D4.out.cell 0
    have e1 : u2.cell? ⟨g4, 1, none⟩ = some (.slice none 0 0) := D4.out.cell 1
    have e2 : u2.cell? ⟨g4, 2, none⟩ = some (.slice none 0 0) := D4.out.cell 2
    have z0 := D4.out.frozen 0
    have z1 := D4.out.frozen 1
    have z2 := D4.out.frozen 2
    have HO : Hid (∀ a b c, Only (fun b => b = g4) u2 (((u2.setCell ⟨g4, 0, none⟩ a).setCell ⟨g4, 1, none⟩ b).setCell ⟨g4, 2, none⟩ c)) := fun a b c => (((Only.refl _ _).at_ 0 a).at_ 1 b).at_ 2 c
    have HS : Hid (∀ a b c, Cs (((u2.setCell ⟨g4, 0, none⟩ a).setCell ⟨g4, 1, none⟩ b).setCell ⟨g4, 2, none⟩ c) g4 makeT #[a, b, c]) := fun a b c => ((D4.out.set_ 0 a).set_ 1 b).set_ 2 c
    go_wp2_with fail
    have hl := load_mk (HS.out (.slice vA m.vars.length vc) (.slice rA m.rules.length rc) (.slice pA m.phony.length pc))
    refine bodyPost_cell (p := 4) (u := 5) (ty := makeT) (ad := ⟨g4, 0, none⟩) rfl rfl rfl hl ?_
    rw [HF7.out]
    exact ⟨⟨vA, vc, rA, rc, pA, pc⟩, rs, rfl, HSt.out.ext (HX.out _ _ X2.out (HO.out _ _ _)), HX.out _ _ X2.out (HO.out _ _ _)⟩
  · have HF7 := Lib.hid (HF5.out.trans (HF6.out.trans (if_neg (by simp))))
    clear HF5 HF6
    by_cases h66 : m.vars.length = 6
    · have gv : (((m.vars.length : Int)) == 6) = true := by rw [beq_iff_eq]; omega
      have gv' : decide (((m.vars.length : Int)) = 6) = true := by rw [decide_eq_true_iff]; omega
      have HF8 := Lib.hid (HF7.out.trans (if_pos h66))
      clear h66
      have D2 := Lib.hid (CB.out.keep X2.out id)
      have D4 := Lib.hid (C4.out.keep X2.out id)
      have q0 : u2.cell? ⟨g2, 0, none⟩ = some (.slice vA m.vars.length vc) := D2.out.cell 0
      have q1 : u2.cell? ⟨g2, 1, none⟩ = some (.slice rA m.rules.length rc) := D2.out.cell 1
      have q2 : u2.cell? ⟨g2, 2, none⟩ = some (.slice pA m.phony.length pc) := D2.out.cell 2
      have e0 : u2.cell? ⟨g4, 0, none⟩ = some (.slice none 0 0) := D4.out.cell 0
      have e1 : u2.cell? ⟨g4, 1, none⟩ = some (.slice none 0 0) := D4.out.cell 1
      have e2 : u2.cell? ⟨g4, 2, none⟩ = some (.slice none 0 0) := D4.out.cell 2
      have z0 := D4.out.frozen 0
      have z1 := D4.out.frozen 1
      have z2 := D4.out.frozen 2
      have HO : Hid (∀ a b c, Only (fun b => b = g4) u2 (((u2.setCell ⟨g4, 0, none⟩ a).setCell ⟨g4, 1, none⟩ b).setCell ⟨g4, 2, none⟩ c)) := fun a b c => (((Only.refl _ _).at_ 0 a).at_ 1 b).at_ 2 c
      have HS : Hid (∀ a b c, Cs (((u2.setCell ⟨g4, 0, none⟩ a).setCell ⟨g4, 1, none⟩ b).setCell ⟨g4, 2, none⟩ c) g4 makeT #[a, b, c]) := fun a b c => ((D4.out.set_ 0 a).set_ 1 b).set_ 2 c
      go_wp2_with fail
      have hl := load_mk (HS.out (.slice vA m.vars.length vc) (.slice rA m.rules.length rc) (.slice pA m.phony.length pc))
      refine bodyPost_cell (p := 4) (u := 5) (ty := makeT) (ad := ⟨g4, 0, none⟩) rfl rfl rfl hl ?_
      rw [HF8.out]
      exact ⟨⟨vA, vc, rA, rc, pA, pc⟩, rs, rfl, HSt.out.ext (HX.out _ _ X2.out (HO.out _ _ _)), HX.out _ _ X2.out (HO.out _ _ _)⟩
    · have gv : (((m.vars.length : Int)) == 6) = false := by rw [beq_eq_false_iff_ne]; omega
      have gv' : decide (((m.vars.length : Int)) = 6) = false := by rw [decide_eq_false_iff_not]; omega
      have HFE := Lib.hid (HF7.out.trans (if_neg h66))
      have d0 : u2.cell? ⟨g2, 0, none⟩ = some (.slice vA m.vars.length vc) := (CB.out.keep X2.out id).cell 0
      have CW := Lib.hid (CB.out.keep X2.out id)
      have DW := Lib.hid (C4.out.keep X2.out id)
      have HRd : Hid (∀ u, Ext u2 u → SlR fileF u vA m.vars.length m.vars) := fun u hu => H.out.fv.ext ((XB.out.then_ext X2.out).then_ext hu)
      have hi1 : i ≤ s.length := by omega
      go_upto_region 31 with fail
      refine Mix.wp_tree 15 [1, 2, 11, 12, 14] (Cl u2 (fun q => q = g2)) rfl (by kernel_rfl) (by kernel_rfl) (Cl.of (Only.refl _ _).drew) ?_
      obtain ⟨μ0, hμ0⟩ : ∃ u, u = u2.drew := ⟨_, rfl⟩
      have xμ : Ext u2 μ0 := by rw [hμ0]; exact (Only.refl No u2).drew
      have cμ := CW.out.keep xμ id
      rw [← hμ0]
      clear hμ0 d0
      (refine Mix.tree_quiet (i := 0) (by kernel_rfl) rfl rfl rfl rfl ?_; intro K hK; go_big_quiet_op; go_big_quiet_on); (refine Mix.tree_quiet (i := 3) (by kernel_rfl) rfl rfl rfl rfl ?_; intro K hK; go_big_quiet_op; go_big_quiet_on); (refine Mix.tree_quiet (i := 4) (by kernel_rfl) rfl rfl rfl rfl ?_; intro K hK; go_big_quiet_op; go_big_quiet_on); (refine Mix.tree_quiet (i := 5) (by kernel_rfl) rfl rfl rfl rfl ?_; intro K hK; go_big_quiet_op; go_big_quiet_on); (refine Mix.tree_quiet (i := 6) (by kernel_rfl) rfl rfl rfl rfl ?_; intro K hK; go_big_quiet_op; go_big_quiet_on); (refine Mix.tree_quiet (i := 7) (by kernel_rfl) rfl rfl rfl rfl ?_; intro K hK; go_big_quiet_op; go_big_quiet_on); (refine Mix.tree_quiet (i := 8) (by kernel_rfl) rfl rfl rfl rfl ?_; intro K hK; go_big_quiet_op; go_big_quiet_on); (refine Mix.tree_quiet (i := 9) (by kernel_rfl) rfl rfl rfl rfl ?_; intro K hK; go_big_quiet_op; go_big_quiet_on); (refine Mix.tree_quiet (i := 10) (by kernel_rfl) rfl rfl rfl rfl ?_; intro K hK; go_big_quiet_op; go_big_quiet_on)
      refine Mix.tree_two (i := 1) (j := 11) (by kernel_rfl) (by kernel_rfl) rfl rfl rfl rfl rfl rfl ?_ ?_
      · intro K hK
        have dμ3 : μ0.cell? ⟨g2, 0, none⟩ = some (.slice vA m.vars.length vc) := cμ.cell 0
        go_simp
        refine hK _ _ (Cl.of xμ.any) ?_
        clear hK K dμ3
        simp only [Act.put, List.setIfInBounds_toArray, List.set_cons_succ, List.set_cons_zero]
        refine Mix.tree_two (i := 2) (j := 11) (by kernel_rfl) (by kernel_rfl) rfl rfl rfl rfl rfl rfl ?_ ?_
        · intro K hK
          refine goes_append (v := .slice none 0 0) (n := 0) (xs := []) vr_ty rfl rfl rfl (World.ownsRow_nil _ _ _ _) ((HRd.out _ xμ).rd (by decide)) (va_enc1 m.vars) (by omega) ?_
          intro A6 c6 w6 hown6 hg6 hb6
          have F6 : Fresh fileF varT μ0 w6 A6 c6 m.vars := (Fresh.nil fileF varT μ0 μ0 (Only.refl _ _)).grow (ys := m.vars) rfl hown6 hg6 hb6
          rw [Nat.zero_add]
          have x6 : Ext u2 w6 := xμ.then_ext F6.ext
          refine hK _ _ (Cl.of x6.any) ?_
          clear hK K hown6 hg6 hb6
          simp only [Act.put, List.setIfInBounds_toArray, List.set_cons_succ, List.set_cons_zero]
          (refine Mix.tree_one (i := 11) (by kernel_rfl) (by kernel_rfl) rfl rfl rfl ?_; intro K hK; go_simp)
          obtain ⟨wb, hwb⟩ : ∃ u, u = (w6).alloc (.cells #[S (s.take i), S (s.drop (i + 3))] varT) := ⟨_, rfl⟩
          obtain ⟨gb, hgb⟩ : ∃ g, g = (w6).heap.size := ⟨_, rfl⟩
          have hCb : Cs wb gb varT #[S (s.take i), S (s.drop (i + 3))] := by rw [hwb, hgb]; exact Cs.new _ _ _
          have xb : Ext (w6) wb := by rw [hwb]; exact (Only.refl No _).alloc _
          rw [← hwb, ← hgb]
          refine hK _ _ (Cl.of (x6.then_ext xb).any) ?_
          clear hK K hwb hgb
          simp only [Act.put, List.setIfInBounds_toArray, List.set_cons_succ, List.set_cons_zero]
          have F6b := F6.on xb
          refine Mix.tree_one (i := 12) (by kernel_rfl) (by kernel_rfl) rfl rfl rfl ?_
          intro K hK
          refine goes_append (v := .slice A6 m.vars.length c6) (n := m.vars.length) (xs := m.vars.flatMap fileF.enc) vr_ty rfl rfl rfl F6b.own (rd_cs (cs := [S (s.take i), S (s.drop (i + 3))]) hCb) (by simp [Value.oneCell']) (by omega) ?_
          intro A7 c7' w7 hown7 hg7 hb7
          have F7 : Fresh fileF varT μ0 w7 A7 c7' (m.vars ++ [(s.take i, s.drop (i + 3))]) := F6b.grow (m := 1) (ys := [(s.take i, s.drop (i + 3))]) rfl hown7 hg7 hb7
          have x7 : Ext u2 w7 := xμ.then_ext F7.ext
          refine hK _ _ (Cl.of x7.any) ?_
          clear hown7 hg7 hb7 F6b F6 x6 xb hCb
          clear hK K
          simp only [Act.put, List.setIfInBounds_toArray, List.set_cons_succ, List.set_cons_zero]
          have C2e : Cs w7 g2 makeT #[.slice vA m.vars.length vc, .slice rA m.rules.length rc, .slice pA m.phony.length pc] := CW.out.keep x7 id
          have C4e : Cs w7 g4 makeT #[.slice none 0 0, .slice none 0 0, .slice none 0 0] := DW.out.keep x7 id
          have y0 : w7.cell? ⟨g2, 0, none⟩ = some (.slice vA m.vars.length vc) := C2e.cell 0
          have yz := C2e.frozen 0
          obtain ⟨w8, hw8⟩ : ∃ u, u = w7.setCell ⟨g2, 0, none⟩ (.slice A7 (m.vars.length + 1 : Nat) c7') := ⟨_, rfl⟩
          have O8 : Only (fun q => q = g2) w7 w8 := by rw [hw8]; exact (Only.refl _ _).at_ 0 _
          have C8 : Cs w8 g2 makeT #[.slice A7 (m.vars.length + 1 : Nat) c7', .slice rA m.rules.length rc, .slice pA m.phony.length pc] := by rw [hw8]; exact C2e.set_ 0 _
          have D8 : Cs w8 g4 makeT #[.slice none 0 0, .slice none 0 0, .slice none 0 0] := C4e.keep O8 (fun e => hz24 e.symm)
          (refine Mix.tree_quiet (i := 13) (by kernel_rfl) rfl rfl rfl rfl ?_; intro K hK; go_big_quiet_op; go_big_quiet_on)
          (refine Mix.tree_one (i := 14) (by kernel_rfl) (by kernel_rfl) rfl rfl rfl ?_; intro K hK; go_simp)
          rw [← hw8]
          refine hK _ _ (Cl.of (x7.any.trans O8 fun q _ e => e)) ?_
          clear hK K hw8 y0 yz
          simp only [Act.put, List.setIfInBounds_toArray, List.set_cons_succ, List.set_cons_zero]
          refine Mix.tree_nil ?_
          have q0 : w8.cell? ⟨g2, 0, none⟩ = some (.slice A7 (m.vars.length + 1 : Nat) c7') := C8.cell 0
          have q1 : w8.cell? ⟨g2, 1, none⟩ = some (.slice rA m.rules.length rc) := C8.cell 1
          have q2 : w8.cell? ⟨g2, 2, none⟩ = some (.slice pA m.phony.length pc) := C8.cell 2
          have e0 : w8.cell? ⟨g4, 0, none⟩ = some (.slice none 0 0) := D8.cell 0
          have e1 : w8.cell? ⟨g4, 1, none⟩ = some (.slice none 0 0) := D8.cell 1
          have e2 : w8.cell? ⟨g4, 2, none⟩ = some (.slice none 0 0) := D8.cell 2
          have z0 := D8.frozen 0
          have z1 := D8.frozen 1
          have z2 := D8.frozen 2
          have HO : Hid (∀ a b c, Only (fun b => b = g4) w8 (((w8.setCell ⟨g4, 0, none⟩ a).setCell ⟨g4, 1, none⟩ b).setCell ⟨g4, 2, none⟩ c)) := fun a b c => (((Only.refl _ _).at_ 0 a).at_ 1 b).at_ 2 c
          have HS : Hid (∀ a b c, Cs (((w8.setCell ⟨g4, 0, none⟩ a).setCell ⟨g4, 1, none⟩ b).setCell ⟨g4, 2, none⟩ c) g4 makeT #[a, b, c]) := fun a b c => ((D8.set_ 0 a).set_ 1 b).set_ 2 c
          have HFin : Hid (∀ wf, Only (fun q => q = g4) w8 wf → HdRes w (⟨m.vars ++ [(s.take i, s.drop (i + 3))], m.rules, m.phony⟩, 0) (.returned (.tuple #[.agg #[.slice A7 (m.vars.length + 1 : Nat) c7', .slice rA m.rules.length rc, .slice pA m.phony.length pc], .int .i64 0])) wf) := fun wf h9 =>
            va_done (w7 := w7) (w8 := w8) (g2 := g2) (g4 := g4) HSt.out hz2 hz4 ((XB.out.then_ext X2.out).then_ext x7) F7.own C2e O8 D8 h9
          clear O8 C8 D8 C2e C4e F7 x7 xμ cμ
          go_wp2_with fail
          have hl := load_mk (HS.out (.slice A7 (m.vars.length + 1 : Nat) c7') (.slice rA m.rules.length rc) (.slice pA m.phony.length pc))
          refine bodyPost_cell (p := 4) (u := 5) (ty := makeT) (ad := ⟨g4, 0, none⟩) rfl rfl rfl hl ?_
          rw [HFE.out]
          obtain ⟨v', rs', he', hM', hE'⟩ := HFin.out _ (HO.out (.slice A7 (m.vars.length + 1 : Nat) c7') (.slice rA m.rules.length rc) (.slice pA m.phony.length pc))
          exact ⟨v', rs', he', hM', hE'⟩
        · intro K hK
          go_simp
          obtain ⟨wb, hwb⟩ : ∃ u, u = (μ0).alloc (.cells #[S (s.take i), S (s.drop (i + 3))] varT) := ⟨_, rfl⟩
          obtain ⟨gb, hgb⟩ : ∃ g, g = (μ0).heap.size := ⟨_, rfl⟩
          have hCb : Cs wb gb varT #[S (s.take i), S (s.drop (i + 3))] := by rw [hwb, hgb]; exact Cs.new _ _ _
          have xb : Ext (μ0) wb := by rw [hwb]; exact (Only.refl No _).alloc _
          rw [← hwb, ← hgb]
          refine hK _ _ (Cl.of (xμ.then_ext xb).any) ?_
          clear hK K hwb hgb
          simp only [Act.put, List.setIfInBounds_toArray, List.set_cons_succ, List.set_cons_zero]
          refine Mix.tree_one (i := 2) (by kernel_rfl) (by kernel_rfl) rfl rfl rfl ?_
          intro K hK
          refine goes_append (v := .slice none 0 0) (n := 0) (xs := []) vr_ty rfl rfl rfl (World.ownsRow_nil _ _ _ _) ((HRd.out _ (xμ.then_ext xb)).rd (by decide)) (va_enc1 m.vars) (by omega) ?_
          intro A6 c6 w6 hown6 hg6 hb6
          have F6 : Fresh fileF varT wb w6 A6 c6 m.vars := (Fresh.nil fileF varT wb wb (Only.refl _ _)).grow (ys := m.vars) rfl hown6 hg6 hb6
          rw [Nat.zero_add]
          have x6 : Ext u2 w6 := (xμ.then_ext xb).then_ext F6.ext
          have hCb6 := hCb.keep F6.ext id
          refine hK _ _ (Cl.of x6.any) ?_
          clear hK K hown6 hg6 hb6
          simp only [Act.put, List.setIfInBounds_toArray, List.set_cons_succ, List.set_cons_zero]
          refine Mix.tree_one (i := 12) (by kernel_rfl) (by kernel_rfl) rfl rfl rfl ?_
          intro K hK
          refine goes_append (v := .slice A6 m.vars.length c6) (n := m.vars.length) (xs := m.vars.flatMap fileF.enc) vr_ty rfl rfl rfl F6.own (rd_cs (cs := [S (s.take i), S (s.drop (i + 3))]) hCb6) (by simp [Value.oneCell']) (by omega) ?_
          intro A7 c7' w7 hown7 hg7 hb7
          have F7 : Fresh fileF varT wb w7 A7 c7' (m.vars ++ [(s.take i, s.drop (i + 3))]) := F6.grow (m := 1) (ys := [(s.take i, s.drop (i + 3))]) rfl hown7 hg7 hb7
          have x7 : Ext u2 w7 := (xμ.then_ext xb).then_ext F7.ext
          refine hK _ _ (Cl.of x7.any) ?_
          clear hown7 hg7 hb7 F6 x6 xb hCb hCb6
          clear hK K
          simp only [Act.put, List.setIfInBounds_toArray, List.set_cons_succ, List.set_cons_zero]
          have C2e : Cs w7 g2 makeT #[.slice vA m.vars.length vc, .slice rA m.rules.length rc, .slice pA m.phony.length pc] := CW.out.keep x7 id
          have C4e : Cs w7 g4 makeT #[.slice none 0 0, .slice none 0 0, .slice none 0 0] := DW.out.keep x7 id
          have y0 : w7.cell? ⟨g2, 0, none⟩ = some (.slice vA m.vars.length vc) := C2e.cell 0
          have yz := C2e.frozen 0
          obtain ⟨w8, hw8⟩ : ∃ u, u = w7.setCell ⟨g2, 0, none⟩ (.slice A7 (m.vars.length + 1 : Nat) c7') := ⟨_, rfl⟩
          have O8 : Only (fun q => q = g2) w7 w8 := by rw [hw8]; exact (Only.refl _ _).at_ 0 _
          have C8 : Cs w8 g2 makeT #[.slice A7 (m.vars.length + 1 : Nat) c7', .slice rA m.rules.length rc, .slice pA m.phony.length pc] := by rw [hw8]; exact C2e.set_ 0 _
          have D8 : Cs w8 g4 makeT #[.slice none 0 0, .slice none 0 0, .slice none 0 0] := C4e.keep O8 (fun e => hz24 e.symm)
          (refine Mix.tree_quiet (i := 13) (by kernel_rfl) rfl rfl rfl rfl ?_; intro K hK; go_big_quiet_op; go_big_quiet_on)
          (refine Mix.tree_one (i := 14) (by kernel_rfl) (by kernel_rfl) rfl rfl rfl ?_; intro K hK; go_simp)
          rw [← hw8]
          refine hK _ _ (Cl.of (x7.any.trans O8 fun q _ e => e)) ?_
          clear hK K hw8 y0 yz
          simp only [Act.put, List.setIfInBounds_toArray, List.set_cons_succ, List.set_cons_zero]
          refine Mix.tree_nil ?_
          have q0 : w8.cell? ⟨g2, 0, none⟩ = some (.slice A7 (m.vars.length + 1 : Nat) c7') := C8.cell 0
          have q1 : w8.cell? ⟨g2, 1, none⟩ = some (.slice rA m.rules.length rc) := C8.cell 1
          have q2 : w8.cell? ⟨g2, 2, none⟩ = some (.slice pA m.phony.length pc) := C8.cell 2
          have e0 : w8.cell? ⟨g4, 0, none⟩ = some (.slice none 0 0) := D8.cell 0
          have e1 : w8.cell? ⟨g4, 1, none⟩ = some (.slice none 0 0) := D8.cell 1
          have e2 : w8.cell? ⟨g4, 2, none⟩ = some (.slice none 0 0) := D8.cell 2
          have z0 := D8.frozen 0
          have z1 := D8.frozen 1
          have z2 := D8.frozen 2
          have HO : Hid (∀ a b c, Only (fun b => b = g4) w8 (((w8.setCell ⟨g4, 0, none⟩ a).setCell ⟨g4, 1, none⟩ b).setCell ⟨g4, 2, none⟩ c)) := fun a b c => (((Only.refl _ _).at_ 0 a).at_ 1 b).at_ 2 c
          have HS : Hid (∀ a b c, Cs (((w8.setCell ⟨g4, 0, none⟩ a).setCell ⟨g4, 1, none⟩ b).setCell ⟨g4, 2, none⟩ c) g4 makeT #[a, b, c]) := fun a b c => ((D8.set_ 0 a).set_ 1 b).set_ 2 c
          have HFin : Hid (∀ wf, Only (fun q => q = g4) w8 wf → HdRes w (⟨m.vars ++ [(s.take i, s.drop (i + 3))], m.rules, m.phony⟩, 0) (.returned (.tuple #[.agg #[.slice A7 (m.vars.length + 1 : Nat) c7', .slice rA m.rules.length rc, .slice pA m.phony.length pc], .int .i64 0])) wf) := fun wf h9 =>
            va_done (w7 := w7) (w8 := w8) (g2 := g2) (g4 := g4) HSt.out hz2 hz4 ((XB.out.then_ext X2.out).then_ext x7) F7.own C2e O8 D8 h9
          clear O8 C8 D8 C2e C4e F7 x7 xμ cμ
          go_wp2_with fail
          have hl := load_mk (HS.out (.slice A7 (m.vars.length + 1 : Nat) c7') (.slice rA m.rules.length rc) (.slice pA m.phony.length pc))
          refine bodyPost_cell (p := 4) (u := 5) (ty := makeT) (ad := ⟨g4, 0, none⟩) rfl rfl rfl hl ?_
          rw [HFE.out]
          obtain ⟨v', rs', he', hM', hE'⟩ := HFin.out _ (HO.out (.slice A7 (m.vars.length + 1 : Nat) c7') (.slice rA m.rules.length rc) (.slice pA m.phony.length pc))
          exact ⟨v', rs', he', hM', hE'⟩
      · intro K hK
        go_simp
        obtain ⟨wb, hwb⟩ : ∃ u, u = (μ0).alloc (.cells #[S (s.take i), S (s.drop (i + 3))] varT) := ⟨_, rfl⟩
        obtain ⟨gb, hgb⟩ : ∃ g, g = (μ0).heap.size := ⟨_, rfl⟩
        have hCb : Cs wb gb varT #[S (s.take i), S (s.drop (i + 3))] := by rw [hwb, hgb]; exact Cs.new _ _ _
        have xb : Ext (μ0) wb := by rw [hwb]; exact (Only.refl No _).alloc _
        rw [← hwb, ← hgb]
        refine hK _ _ (Cl.of (xμ.then_ext xb).any) ?_
        clear hK K hwb hgb
        simp only [Act.put, List.setIfInBounds_toArray, List.set_cons_succ, List.set_cons_zero]
        have dμ3 : wb.cell? ⟨g2, 0, none⟩ = some (.slice vA m.vars.length vc) := (cμ.keep xb id).cell 0
        (refine Mix.tree_one (i := 1) (by kernel_rfl) (by kernel_rfl) rfl rfl rfl ?_; intro K hK; go_simp)
        refine hK _ _ (Cl.of (xμ.then_ext xb).any) ?_
        clear hK K dμ3
        simp only [Act.put, List.setIfInBounds_toArray, List.set_cons_succ, List.set_cons_zero]
        refine Mix.tree_one (i := 2) (by kernel_rfl) (by kernel_rfl) rfl rfl rfl ?_
        intro K hK
        refine goes_append (v := .slice none 0 0) (n := 0) (xs := []) vr_ty rfl rfl rfl (World.ownsRow_nil _ _ _ _) ((HRd.out _ (xμ.then_ext xb)).rd (by decide)) (va_enc1 m.vars) (by omega) ?_
        intro A6 c6 w6 hown6 hg6 hb6
        have F6 : Fresh fileF varT wb w6 A6 c6 m.vars := (Fresh.nil fileF varT wb wb (Only.refl _ _)).grow (ys := m.vars) rfl hown6 hg6 hb6
        rw [Nat.zero_add]
        have x6 : Ext u2 w6 := (xμ.then_ext xb).then_ext F6.ext
        have hCb6 := hCb.keep F6.ext id
        refine hK _ _ (Cl.of x6.any) ?_
        clear hK K hown6 hg6 hb6
        simp only [Act.put, List.setIfInBounds_toArray, List.set_cons_succ, List.set_cons_zero]
        refine Mix.tree_one (i := 12) (by kernel_rfl) (by kernel_rfl) rfl rfl rfl ?_
        intro K hK
        refine goes_append (v := .slice A6 m.vars.length c6) (n := m.vars.length) (xs := m.vars.flatMap fileF.enc) vr_ty rfl rfl rfl F6.own (rd_cs (cs := [S (s.take i), S (s.drop (i + 3))]) hCb6) (by simp [Value.oneCell']) (by omega) ?_
        intro A7 c7' w7 hown7 hg7 hb7
        have F7 : Fresh fileF varT wb w7 A7 c7' (m.vars ++ [(s.take i, s.drop (i + 3))]) := F6.grow (m := 1) (ys := [(s.take i, s.drop (i + 3))]) rfl hown7 hg7 hb7
        have x7 : Ext u2 w7 := (xμ.then_ext xb).then_ext F7.ext
        refine hK _ _ (Cl.of x7.any) ?_
        clear hown7 hg7 hb7 F6 x6 xb hCb hCb6
        clear hK K
        simp only [Act.put, List.setIfInBounds_toArray, List.set_cons_succ, List.set_cons_zero]
        have C2e : Cs w7 g2 makeT #[.slice vA m.vars.length vc, .slice rA m.rules.length rc, .slice pA m.phony.length pc] := CW.out.keep x7 id
        have C4e : Cs w7 g4 makeT #[.slice none 0 0, .slice none 0 0, .slice none 0 0] := DW.out.keep x7 id
        have y0 : w7.cell? ⟨g2, 0, none⟩ = some (.slice vA m.vars.length vc) := C2e.cell 0
        have yz := C2e.frozen 0
        obtain ⟨w8, hw8⟩ : ∃ u, u = w7.setCell ⟨g2, 0, none⟩ (.slice A7 (m.vars.length + 1 : Nat) c7') := ⟨_, rfl⟩
        have O8 : Only (fun q => q = g2) w7 w8 := by rw [hw8]; exact (Only.refl _ _).at_ 0 _
        have C8 : Cs w8 g2 makeT #[.slice A7 (m.vars.length + 1 : Nat) c7', .slice rA m.rules.length rc, .slice pA m.phony.length pc] := by rw [hw8]; exact C2e.set_ 0 _
        have D8 : Cs w8 g4 makeT #[.slice none 0 0, .slice none 0 0, .slice none 0 0] := C4e.keep O8 (fun e => hz24 e.symm)
        (refine Mix.tree_quiet (i := 13) (by kernel_rfl) rfl rfl rfl rfl ?_; intro K hK; go_big_quiet_op; go_big_quiet_on)
        (refine Mix.tree_one (i := 14) (by kernel_rfl) (by kernel_rfl) rfl rfl rfl ?_; intro K hK; go_simp)
        rw [← hw8]
        refine hK _ _ (Cl.of (x7.any.trans O8 fun q _ e => e)) ?_
        clear hK K hw8 y0 yz
        simp only [Act.put, List.setIfInBounds_toArray, List.set_cons_succ, List.set_cons_zero]
        refine Mix.tree_nil ?_
        have q0 : w8.cell? ⟨g2, 0, none⟩ = some (.slice A7 (m.vars.length + 1 : Nat) c7') := C8.cell 0
        have q1 : w8.cell? ⟨g2, 1, none⟩ = some (.slice rA m.rules.length rc) := C8.cell 1
        have q2 : w8.cell? ⟨g2, 2, none⟩ = some (.slice pA m.phony.length pc) := C8.cell 2
        have e0 : w8.cell? ⟨g4, 0, none⟩ = some (.slice none 0 0) := D8.cell 0
        have e1 : w8.cell? ⟨g4, 1, none⟩ = some (.slice none 0 0) := D8.cell 1
        have e2 : w8.cell? ⟨g4, 2, none⟩ = some (.slice none 0 0) := D8.cell 2
        have z0 := D8.frozen 0
        have z1 := D8.frozen 1
        have z2 := D8.frozen 2
        have HO : Hid (∀ a b c, Only (fun b => b = g4) w8 (((w8.setCell ⟨g4, 0, none⟩ a).setCell ⟨g4, 1, none⟩ b).setCell ⟨g4, 2, none⟩ c)) := fun a b c => (((Only.refl _ _).at_ 0 a).at_ 1 b).at_ 2 c
        have HS : Hid (∀ a b c, Cs (((w8.setCell ⟨g4, 0, none⟩ a).setCell ⟨g4, 1, none⟩ b).setCell ⟨g4, 2, none⟩ c) g4 makeT #[a, b, c]) := fun a b c => ((D8.set_ 0 a).set_ 1 b).set_ 2 c
        have HFin : Hid (∀ wf, Only (fun q => q = g4) w8 wf → HdRes w (⟨m.vars ++ [(s.take i, s.drop (i + 3))], m.rules, m.phony⟩, 0) (.returned (.tuple #[.agg #[.slice A7 (m.vars.length + 1 : Nat) c7', .slice rA m.rules.length rc, .slice pA m.phony.length pc], .int .i64 0])) wf) := fun wf h9 =>
          va_done (w7 := w7) (w8 := w8) (g2 := g2) (g4 := g4) HSt.out hz2 hz4 ((XB.out.then_ext X2.out).then_ext x7) F7.own C2e O8 D8 h9
        clear O8 C8 D8 C2e C4e F7 x7 xμ cμ
        go_wp2_with fail
        have hl := load_mk (HS.out (.slice A7 (m.vars.length + 1 : Nat) c7') (.slice rA m.rules.length rc) (.slice pA m.phony.length pc))
        refine bodyPost_cell (p := 4) (u := 5) (ty := makeT) (ad := ⟨g4, 0, none⟩) rfl rfl rfl hl ?_
        rw [HFE.out]
        obtain ⟨v', rs', he', hM', hE'⟩ := HFin.out _ (HO.out (.slice A7 (m.vars.length + 1 : Nat) c7') (.slice rA m.rules.length rc) (.slice pA m.phony.length pc))
        exact ⟨v', rs', he', hM', hE'⟩
end Go.Proofs.YtnhaekifcieeoaaGreatDoor
