/- Put together: Rln, Rmf, Rmo, Gsa. -/
import Derived.Test.YtnhaekifcieeoaaGreatDoorPk22
import Derived.Test.YtnhaekifcieeoaaGreatDoorPk23
import Derived.Test.YtnhaekifcieeoaaGreatDoorPk10
import Derived.Test.YtnhaekifcieeoaaGreatDoorPk20
import Derived.Test.YtnhaekifcieeoaaGreatDoorPk15
import Derived.Test.YtnhaekifcieeoaaGreatDoorPk04
namespace Go.Proofs.YtnhaekifcieeoaaGreatDoor
open Go Go.RowKit
set_option maxRecDepth 100000 in
set_option maxHeartbeats 8000000 in
theorem Ln_head1 {w : World} {v : MkV} {rs : List (RulA × Rul)} {m : Mk} {k : Nat} (hS : MakeS w v rs m) (hf : m.Fit k) (hk : k ≤ 10000) (s : Str) (hs : s.length ≤ 600) (hs0 : 0 < s.length) (k35 : ¬ s[0] = 35) (k9 : ¬ s[0] = 9) (hph : ¬ Lib.hasPrefix s phonyT = true) (hc1 : Lib.cut s eqT = (s, [], false)) (hc2 : fndI s eqT 0 = -1) (h5 : 5 < s.length) (g6 : (s.take 6 == phonyT) = false) :
    Calls Tryz.prog 34 #[mkV v m, S s] w (HdRes w (lineF m s)) := by
  obtain ⟨vA, vc, rA, rc, pA, pc⟩ := v
  obtain ⟨g2, hg2⟩ : ∃ g, g = w.heap.size := ⟨_, rfl⟩
  obtain ⟨w1, hw1⟩ : ∃ u, u = w.alloc (.cells #[.slice vA m.vars.length vc, .slice rA m.rules.length rc, .slice pA m.phony.length pc] makeT) := ⟨_, rfl⟩
  have x1 : Ext w w1 := by rw [hw1]; exact (Only.refl No w).alloc _
  have hc1 : Cs w1 g2 makeT #[.slice vA m.vars.length vc, .slice rA m.rules.length rc, .slice pA m.phony.length pc] := by rw [hw1, hg2]; exact Cs.new _ _ _
  obtain ⟨g4, hg4⟩ : ∃ g, g = w1.heap.size := ⟨_, rfl⟩
  obtain ⟨w2, hw2⟩ : ∃ u, u = w1.alloc (.cells #[.slice none 0 0, .slice none 0 0, .slice none 0 0] makeT) := ⟨_, rfl⟩
  have x2 : Ext w1 w2 := by rw [hw2]; exact (Only.refl No w1).alloc _
  have C4 : Hid (Cs w2 g4 makeT #[.slice none 0 0, .slice none 0 0, .slice none 0 0]) := by rw [hw2, hg4]; exact Cs.new _ _ _
  have CB := Lib.hid (hc1.keep x2 id)
  have hz : g4 = g2 + 1 := by rw [hg4, hg2, hw1]; simp
  have hz2 : w.heap.size ≤ g2 := by omega
  have hz4 : w.heap.size ≤ g4 := by omega
  have hz24 : g2 ≠ g4 := by omega
  have XB := Lib.hid (x1.then_ext x2)
  have HX : Hid (∀ u v', Ext w2 u → Only (fun b => b = g4) u v' → Ext w v') := fun u v' h1 h2 => (XB.out.then_ext h1).trans h2 fun b hb e => by have e : b = g4 := e; omega
  have HSt := Lib.hid hS
  have h := hS.here
  have H := Lib.hid h
  clear hS
  clear x1 x2 hc1
  have hr10 : m.rules.length ≤ 10 := hf.r
  have hv6 : m.vars.length ≤ 6 := hf.v
  have hp10 : m.phony.length ≤ 10000 := by have := hf.p; omega
  have HFt := Lib.hid hf
  have c0 : w2.cell? ⟨g2, 0, none⟩ = some (.slice vA m.vars.length vc) := CB.out.cell 0
  have c1 : w2.cell? ⟨g2, 1, none⟩ = some (.slice rA m.rules.length rc) := CB.out.cell 1
  have c2 : w2.cell? ⟨g2, 2, none⟩ = some (.slice pA m.phony.length pc) := CB.out.cell 2
  have X0 : Hid (Ext w2 w2) := Only.refl _ _
  clear h hf
  obtain ⟨x, hx0⟩ : ∃ x, s[0] = x := ⟨_, rfl⟩
  have hne : (s == ([] : Str)) = false := by
    cases s with
    | nil => simp at hs0
    | cons a l => rfl
  have HF : Hid (lineF m s = if x = 35 then (m, 0) else if x = 9 then cmdF m (s.drop 1) else if Lib.hasPrefix s phonyT = true then phoF m (s.drop 6) else if (Lib.cut s eqT).2.2 = true then varF m (Lib.cut s eqT).1 (Lib.cut s eqT).2.1 else headF m s) := by
    cases s with
    | nil => simp at hs0
    | cons a l =>
      have : a = x := hx0
      subst this
      exact lineF_cons m a l
  have h35 : ¬ x = 35 := by rw [← hx0]; exact k35
  have q1' : (((x.toNat : Int)) == 35) = false := (byte_eq' x 35).trans (decide_eq_false h35)
  have HF2 := Lib.hid (HF.out.trans (if_neg h35))
  clear HF h35
  have h9 : ¬ x = 9 := by rw [← hx0]; exact k9
  have q2' : (((x.toNat : Int)) == 9) = false := (byte_eq' x 9).trans (decide_eq_false h9)
  have HF3 := Lib.hid (HF2.out.trans (if_neg h9))
  clear h9 HF2
  have HF4 := Lib.hid (HF3.out.trans (if_neg hph))
  clear HF3 hph
  have HC := Lib.hid (fun v => rfind3_c s (by omega) 32 61 32 0 (Nat.zero_le _) v)
  rw [hc2] at HC
  rw [hc1] at HF4
  have HFE : Hid (lineF m s = headF m s) := HF4.out.trans (if_neg (by simp))
  have HH := Lib.hid (fun (v : World) (hv : Ext w2 v) => Headed_c (HSt.out.ext (XB.out.then_ext hv)) HFt.out s hs)
  clear hc1 hc2 HF4
  have g5 : decide ((5 : Int) < (s.length : Int)) = true := by rw [decide_eq_true_iff]; omega
  show Calls _ _ #[.agg #[.slice vA m.vars.length vc, .slice rA m.rules.length rc, .slice pA m.phony.length pc], S s] _ _
  go_enter Tryz.func34, Tryz.ntmps34
  go_upto_region 1 with fail
  rw [← hw1, ← hg2, ← hw2, ← hz]
  clear hw1 hg2 hw2 hg4 hz
  go_wp2_with fail
  refine (HC.out _).mono ?_
  rintro e' u1 ⟨rfl, hu⟩
  have X1 := Lib.hid hu
  have hB1 := CB.out.keep hu id
  have q0 : u1.cell? ⟨g2, 0, none⟩ = some (.slice vA m.vars.length vc) := hB1.cell 0
  have q1 : u1.cell? ⟨g2, 1, none⟩ = some (.slice rA m.rules.length rc) := hB1.cell 1
  have q2 : u1.cell? ⟨g2, 2, none⟩ = some (.slice pA m.phony.length pc) := hB1.cell 2
  clear hu hB1 c0 c1 c2 HC
  go_wp2_with fail
  refine (HH.out _ X1.out).mono ?_
  rintro e' u2 ⟨v', rs', rfl, hM, hx⟩
  have X2 := Lib.hid (X1.out.then_ext hx)
  have HM2 := Lib.hid hM
  obtain ⟨vA', vc', rA', rc', pA', pc'⟩ := v'
  clear hx hM X1 q0 q1 q2 HH
  have D4 := Lib.hid (C4.out.keep X2.out id)
  have e0 : u2.cell? ⟨g4, 0, none⟩ = some (.slice none 0 0) := D4.out.cell 0
  have e1 : u2.cell? ⟨g4, 1, none⟩ = some (.slice none 0 0) := D4.out.cell 1
  have e2 : u2.cell? ⟨g4, 2, none⟩ = some (.slice none 0 0) := D4.out.cell 2
  have z0 := D4.out.frozen 0
  have z1 := D4.out.frozen 1
  have z2 := D4.out.frozen 2
  have HO : Hid (∀ a b c, Only (fun b => b = g4) u2 (((u2.setCell ⟨g4, 0, none⟩ a).setCell ⟨g4, 1, none⟩ b).setCell ⟨g4, 2, none⟩ c)) := fun a b c => (((Only.refl _ _).at_ 0 a).at_ 1 b).at_ 2 c
  have HS : Hid (∀ a b c, Cs (((u2.setCell ⟨g4, 0, none⟩ a).setCell ⟨g4, 1, none⟩ b).setCell ⟨g4, 2, none⟩ c) g4 makeT #[a, b, c]) := fun a b c => ((D4.out.set_ 0 a).set_ 1 b).set_ 2 c
  go_wp2_with fail
  have hl := load_mk (HS.out (.slice vA' (headF m s).1.vars.length vc') (.slice rA' (headF m s).1.rules.length rc') (.slice pA' (headF m s).1.phony.length pc'))
  refine bodyPost_cell (p := 4) (u := 5) (ty := makeT) (ad := ⟨g4, 0, none⟩) rfl rfl rfl hl ?_
  rw [HFE.out]
  exact ⟨⟨vA', vc', rA', rc', pA', pc'⟩, rs', rfl, HM2.out.at_ D4.out (HO.out _ _ _), HX.out _ _ X2.out (HO.out _ _ _)⟩
set_option maxRecDepth 100000 in
set_option maxHeartbeats 8000000 in
theorem Ln_head0 {w : World} {v : MkV} {rs : List (RulA × Rul)} {m : Mk} {k : Nat} (hS : MakeS w v rs m) (hf : m.Fit k) (hk : k ≤ 10000) (s : Str) (hs : s.length ≤ 600) (hs0 : 0 < s.length) (k35 : ¬ s[0] = 35) (k9 : ¬ s[0] = 9) (hph : ¬ Lib.hasPrefix s phonyT = true) (hc1 : Lib.cut s eqT = (s, [], false)) (hc2 : fndI s eqT 0 = -1) (h5 : ¬ 5 < s.length) :
    Calls Tryz.prog 34 #[mkV v m, S s] w (HdRes w (lineF m s)) := by
  obtain ⟨vA, vc, rA, rc, pA, pc⟩ := v
  obtain ⟨g2, hg2⟩ : ∃ g, g = w.heap.size := ⟨_, rfl⟩
  obtain ⟨w1, hw1⟩ : ∃ u, u = w.alloc (.cells #[.slice vA m.vars.length vc, .slice rA m.rules.length rc, .slice pA m.phony.length pc] makeT) := ⟨_, rfl⟩
  have x1 : Ext w w1 := by rw [hw1]; exact (Only.refl No w).alloc _
  have hc1 : Cs w1 g2 makeT #[.slice vA m.vars.length vc, .slice rA m.rules.length rc, .slice pA m.phony.length pc] := by rw [hw1, hg2]; exact Cs.new _ _ _
  obtain ⟨g4, hg4⟩ : ∃ g, g = w1.heap.size := ⟨_, rfl⟩
  obtain ⟨w2, hw2⟩ : ∃ u, u = w1.alloc (.cells #[.slice none 0 0, .slice none 0 0, .slice none 0 0] makeT) := ⟨_, rfl⟩
  have x2 : Ext w1 w2 := by rw [hw2]; exact (Only.refl No w1).alloc _
  have C4 : Hid (Cs w2 g4 makeT #[.slice none 0 0, .slice none 0 0, .slice none 0 0]) := by rw [hw2, hg4]; exact Cs.new _ _ _
  have CB := Lib.hid (hc1.keep x2 id)
  have hz : g4 = g2 + 1 := by rw [hg4, hg2, hw1]; simp
  have hz2 : w.heap.size ≤ g2 := by omega
  have hz4 : w.heap.size ≤ g4 := by omega
  have hz24 : g2 ≠ g4 := by omega
  have XB := Lib.hid (x1.then_ext x2)
  have HX : Hid (∀ u v', Ext w2 u → Only (fun b => b = g4) u v' → Ext w v') := fun u v' h1 h2 => (XB.out.then_ext h1).trans h2 fun b hb e => by have e : b = g4 := e; omega
  have HSt := Lib.hid hS
  have h := hS.here
  have H := Lib.hid h
  clear hS
  clear x1 x2 hc1
  have hr10 : m.rules.length ≤ 10 := hf.r
  have hv6 : m.vars.length ≤ 6 := hf.v
  have hp10 : m.phony.length ≤ 10000 := by have := hf.p; omega
  have HFt := Lib.hid hf
  have c0 : w2.cell? ⟨g2, 0, none⟩ = some (.slice vA m.vars.length vc) := CB.out.cell 0
  have c1 : w2.cell? ⟨g2, 1, none⟩ = some (.slice rA m.rules.length rc) := CB.out.cell 1
  have c2 : w2.cell? ⟨g2, 2, none⟩ = some (.slice pA m.phony.length pc) := CB.out.cell 2
  have X0 : Hid (Ext w2 w2) := Only.refl _ _
  clear h hf
  obtain ⟨x, hx0⟩ : ∃ x, s[0] = x := ⟨_, rfl⟩
  have hne : (s == ([] : Str)) = false := by
    cases s with
    | nil => simp at hs0
    | cons a l => rfl
  have HF : Hid (lineF m s = if x = 35 then (m, 0) else if x = 9 then cmdF m (s.drop 1) else if Lib.hasPrefix s phonyT = true then phoF m (s.drop 6) else if (Lib.cut s eqT).2.2 = true then varF m (Lib.cut s eqT).1 (Lib.cut s eqT).2.1 else headF m s) := by
    cases s with
    | nil => simp at hs0
    | cons a l =>
      have : a = x := hx0
      subst this
      exact lineF_cons m a l
  have h35 : ¬ x = 35 := by rw [← hx0]; exact k35
  have q1' : (((x.toNat : Int)) == 35) = false := (byte_eq' x 35).trans (decide_eq_false h35)
  have HF2 := Lib.hid (HF.out.trans (if_neg h35))
  clear HF h35
  have h9 : ¬ x = 9 := by rw [← hx0]; exact k9
  have q2' : (((x.toNat : Int)) == 9) = false := (byte_eq' x 9).trans (decide_eq_false h9)
  have HF3 := Lib.hid (HF2.out.trans (if_neg h9))
  clear h9 HF2
  have HF4 := Lib.hid (HF3.out.trans (if_neg hph))
  clear HF3 hph
  have HC := Lib.hid (fun v => rfind3_c s (by omega) 32 61 32 0 (Nat.zero_le _) v)
  rw [hc2] at HC
  rw [hc1] at HF4
  have HFE : Hid (lineF m s = headF m s) := HF4.out.trans (if_neg (by simp))
  have HH := Lib.hid (fun (v : World) (hv : Ext w2 v) => Headed_c (HSt.out.ext (XB.out.then_ext hv)) HFt.out s hs)
  clear hc1 hc2 HF4
  have g5 : decide ((5 : Int) < (s.length : Int)) = false := by rw [decide_eq_false_iff_not]; omega
  show Calls _ _ #[.agg #[.slice vA m.vars.length vc, .slice rA m.rules.length rc, .slice pA m.phony.length pc], S s] _ _
  go_enter Tryz.func34, Tryz.ntmps34
  go_upto_region 1 with fail
  rw [← hw1, ← hg2, ← hw2, ← hz]
  clear hw1 hg2 hw2 hg4 hz
  go_wp2_with fail
  refine (HC.out _).mono ?_
  rintro e' u1 ⟨rfl, hu⟩
  have X1 := Lib.hid hu
  have hB1 := CB.out.keep hu id
  have q0 : u1.cell? ⟨g2, 0, none⟩ = some (.slice vA m.vars.length vc) := hB1.cell 0
  have q1 : u1.cell? ⟨g2, 1, none⟩ = some (.slice rA m.rules.length rc) := hB1.cell 1
  have q2 : u1.cell? ⟨g2, 2, none⟩ = some (.slice pA m.phony.length pc) := hB1.cell 2
  clear hu hB1 c0 c1 c2 HC
  go_wp2_with fail
  refine (HH.out _ X1.out).mono ?_
  rintro e' u2 ⟨v', rs', rfl, hM, hx⟩
  have X2 := Lib.hid (X1.out.then_ext hx)
  have HM2 := Lib.hid hM
  obtain ⟨vA', vc', rA', rc', pA', pc'⟩ := v'
  clear hx hM X1 q0 q1 q2 HH
  have D4 := Lib.hid (C4.out.keep X2.out id)
  have e0 : u2.cell? ⟨g4, 0, none⟩ = some (.slice none 0 0) := D4.out.cell 0
  have e1 : u2.cell? ⟨g4, 1, none⟩ = some (.slice none 0 0) := D4.out.cell 1
  have e2 : u2.cell? ⟨g4, 2, none⟩ = some (.slice none 0 0) := D4.out.cell 2
  have z0 := D4.out.frozen 0
  have z1 := D4.out.frozen 1
  have z2 := D4.out.frozen 2
  have HO : Hid (∀ a b c, Only (fun b => b = g4) u2 (((u2.setCell ⟨g4, 0, none⟩ a).setCell ⟨g4, 1, none⟩ b).setCell ⟨g4, 2, none⟩ c)) := fun a b c => (((Only.refl _ _).at_ 0 a).at_ 1 b).at_ 2 c
  have HS : Hid (∀ a b c, Cs (((u2.setCell ⟨g4, 0, none⟩ a).setCell ⟨g4, 1, none⟩ b).setCell ⟨g4, 2, none⟩ c) g4 makeT #[a, b, c]) := fun a b c => ((D4.out.set_ 0 a).set_ 1 b).set_ 2 c
  go_wp2_with fail
  have hl := load_mk (HS.out (.slice vA' (headF m s).1.vars.length vc') (.slice rA' (headF m s).1.rules.length rc') (.slice pA' (headF m s).1.phony.length pc'))
  refine bodyPost_cell (p := 4) (u := 5) (ty := makeT) (ad := ⟨g4, 0, none⟩) rfl rfl rfl hl ?_
  rw [HFE.out]
  exact ⟨⟨vA', vc', rA', rc', pA', pc'⟩, rs', rfl, HM2.out.at_ D4.out (HO.out _ _ _), HX.out _ _ X2.out (HO.out _ _ _)⟩
theorem Lined_c {w : World} {v : MkV} {rs : List (RulA × Rul)} {m : Mk} {k : Nat} (hS : MakeS w v rs m) (hf : m.Fit k) (hk : k ≤ 10000) (s : Str) (hs : s.length ≤ 600) :
    Calls Tryz.prog 34 #[mkV v m, S s] w (HdRes w (lineF m s)) := by
  by_cases h0 : s.length = 0
  · exact Ln_nil hS hf hk s hs h0
  have hs0 : 0 < s.length := by omega
  by_cases k35 : s[0] = 35
  · exact Ln_note hS hf hk s hs hs0 k35
  by_cases k9 : s[0] = 9
  · rcases List.eq_nil_or_concat rs with rfl | ⟨ini, ⟨a, r⟩, rfl⟩
    · exact Ln_cmd0 hS hf hk s hs hs0 k9
    · rw [List.concat_eq_append] at hS
      exact Ln_cmd hS hf hk s hs hs0 k9
  by_cases hph : Lib.hasPrefix s phonyT = true
  · exact Ln_pho hS hf hk s hs hs0 k35 k9 hph
  have hpf : (5 < s.length ∧ (s.take 6 == phonyT) = false) ∨ ¬ 5 < s.length := by
    rw [← Lib.hasPrefix_of_take, Bool.and_eq_true, decide_eq_true_iff] at hph
    by_cases h : 5 < s.length
    · left
      refine ⟨h, ?_⟩
      cases hb : (s.take 6 == phonyT) with
      | false => rfl
      | true => exact absurd ⟨(by show 6 ≤ s.length; omega), hb⟩ hph
    · exact .inr h
  rcases fndI_cut s eqT with ⟨hc1, hc2⟩ | ⟨i, hc1, hc2, hc3⟩
  · rcases hpf with ⟨h5, g6⟩ | h5
    · exact Ln_head1 hS hf hk s hs hs0 k35 k9 hph hc1 hc2 h5 g6
    · exact Ln_head0 hS hf hk s hs hs0 k35 k9 hph hc1 hc2 h5
  · rcases hpf with ⟨h5, g6⟩ | h5
    · exact Ln_var1 hS hf hk s hs hs0 k35 k9 hph hc1 hc2 hc3 h5 g6
    · exact Ln_var0 hS hf hk s hs hs0 k35 k9 hph hc1 hc2 hc3 h5
def MfRes (w : World) (r : Int) (e : Ending) (w' : World) : Prop := e = .returned (.int .i64 r) ∧ Ext w w'
set_option maxRecDepth 100000 in
set_option maxHeartbeats 4000000 in
theorem MakeFault_c {w : World} {v : MkV} {rs : List (RulA × Rul)} {m : Mk} (h : MakeR w v rs m) (hr : m.rules.length ≤ 10) (ht : ∀ x ∈ m.rules, 1 ≤ x.targets.length ∧ x.targets.length ≤ 2) (hp : m.phony.length ≤ 100000) :
    Calls Tryz.prog 35 #[mkV v m] w (MfRes w (chkF m)) := by
  obtain ⟨vA, vc, rA, rc, pA, pc⟩ := v
  obtain ⟨g1, hg1⟩ : ∃ g, g = w.heap.size := ⟨_, rfl⟩
  obtain ⟨w0, hw0⟩ : ∃ u, u = w.alloc (.cells #[.slice vA m.vars.length vc, .slice rA m.rules.length rc, .slice pA m.phony.length pc] makeT) := ⟨_, rfl⟩
  have x0 : Ext w w0 := by rw [hw0]; exact (Only.refl No w).alloc _
  have C0 : Hid (Cs w0 g1 makeT #[.slice vA m.vars.length vc, .slice rA m.rules.length rc, .slice pA m.phony.length pc]) := by rw [hw0, hg1]; exact Cs.new _ _ _
  have R0 := Lib.hid (h.ext x0)
  have X0 := Lib.hid x0
  have c1 : w0.cell? ⟨g1, 1, none⟩ = some (.slice rA m.rules.length rc) := C0.out.cell 1
  have HTg := Lib.hid ht
  have hrl : rs.length = m.rules.length := by rw [← h.rm, List.length_map]
  have HF : Hid (chkF m = match chkR m.phony m.rules [] with | none => 3 | some made => if m.phony.all (inS made) = true then 0 else 3) := rfl
  clear x0 h ht
  show Calls _ _ #[.agg #[.slice vA m.vars.length vc, .slice rA m.rules.length rc, .slice pA m.phony.length pc]] _ _
  go_enter Tryz.func35, Tryz.ntmps35
  go_upto_region 1 with fail
  rw [← hw0, ← hg1]
  clear hw0 hg1
  go_wp2_with fail
  go_loopw [3, 4] (fun z i wr => ∃ j : Nat, j ≤ m.rules.length ∧ i = .int .i64 j ∧ ∃ L A' c', z = .slice A' L.length c' ∧ Fresh strF 9 w0 wr A' c' L ∧ L.length ≤ 2 * j ∧ chkR m.phony m.rules [] = chkR m.phony (m.rules.drop j) L) (fun _ i _ => m.rules.length - (intOf i).toNat)
  case atStart => exact ⟨0, Nat.zero_le _, rfl, [], none, 0, rfl, Fresh.nil _ _ _ _ (Only.refl _ _), Nat.le_refl _, rfl⟩
  case round =>
    obtain ⟨j, hj, rfl, L, A', c', rfl, hL, hLl, hO⟩ := hrel
    have FL := Lib.hid hL
    have HO := Lib.hid hO
    clear hL hO c1
    have c1 : wr.cell? ⟨g1, 1, none⟩ = some (.slice rA m.rules.length rc) := (C0.out.keep FL.out.ext id).cell 1
    by_cases hlt : j < m.rules.length
    · obtain ⟨b, o, x, rfl, hx, hb, k0, k1, k2⟩ := rules_get R0.out.fr hlt
      obtain ⟨⟨tA, tc, nA, nc, cA, cc⟩, r⟩ := x
      have hrx : m.rules[j]? = some r := by rw [← R0.out.rm, List.getElem?_map, hx]; rfl
      have HX := Lib.hid hrx
      have HRR := Lib.hid (R0.out.rr _ (List.mem_of_getElem? hx))
      have HT12 := HTg.out r (List.mem_of_getElem? hrx)
      have q0 := k0 _ FL.out.ext
      have q1 := k1 _ FL.out.ext
      have q2 := k2 _ FL.out.ext
      dsimp only at q0 q1 q2 HRR
      clear hx hrx k0 k1 k2
      obtain ⟨g5, hg5⟩ : ∃ g, g = wr.heap.size := ⟨_, rfl⟩
      obtain ⟨w1, hw1⟩ : ∃ u, u = wr.alloc (.cells #[.slice tA r.targets.length tc, .slice nA r.needs.length nc, .slice cA r.cmds.length cc] ruleT) := ⟨_, rfl⟩
      have x1 : Ext wr w1 := by rw [hw1]; exact (Only.refl No wr).alloc _
      have C5 : Hid (Cs w1 g5 ruleT #[.slice tA r.targets.length tc, .slice nA r.needs.length nc, .slice cA r.cmds.length cc]) := by rw [hw1, hg5]; exact Cs.new _ _ _
      have F1 := Lib.hid (FL.out.on x1)
      have d0 : w1.cell? ⟨g5, 0, none⟩ = some (.slice tA r.targets.length tc) := C5.out.cell 0
      have HG5 : Hid (w0.heap.size ≤ g5) := by rw [Hid, hg5]; exact FL.out.ext.size
      go_upto_region 6 with fail
      rw [← hw1, ← hg5]
      clear hw1 hg5 q0 q1 q2 c1
      have HO2 : Hid (chkR m.phony m.rules [] = if dupF L r.targets = true then none else if ruleOk m.phony r = true then chkR m.phony (m.rules.drop (j + 1)) (L ++ r.targets) else none) := by
        rw [Hid, HO.out, drop_get HX.out, chkR_cons]
      clear HO
      go_wp2_with fail
      go_loopw [3, 6] (fun z i wr => ∃ k : Nat, k ≤ r.targets.length ∧ i = .int .i64 k ∧ ∃ A'' c'', z = .slice A'' (L ++ r.targets.take k).length c'' ∧ Fresh strF 9 w0 wr A'' c'' (L ++ r.targets.take k) ∧ Cs wr g5 ruleT #[.slice tA r.targets.length tc, .slice nA r.needs.length nc, .slice cA r.cmds.length cc] ∧ dupF L r.targets = dupF (L ++ r.targets.take k) (r.targets.drop k)) (fun _ i _ => r.targets.length - (intOf i).toNat)
      case atStart => exact ⟨0, Nat.zero_le _, rfl, A', c', by simp, by simpa using F1.out, C5.out, by simp⟩
      case round =>
        clear F1 C5 d0
        obtain ⟨k, hk, rfl, A2, c2, rfl, hF2, hC2, hD⟩ := hrel
        have F2 := Lib.hid hF2
        have C2 := Lib.hid hC2
        have HD := Lib.hid hD
        have d0 : wr.cell? ⟨g5, 0, none⟩ = some (.slice tA r.targets.length tc) := hC2.cell 0
        clear hF2 hC2 hD
        obtain ⟨L2, hL2⟩ : ∃ l, l = L ++ r.targets.take k := ⟨_, rfl⟩
        rw [← hL2] at F2 HD ⊢
        have HL2 := Lib.hid hL2
        have hL2l : L2.length ≤ 2 * j + 2 := by
          rw [hL2, List.length_append, List.length_take]
          have := HT12.2
          omega
        clear hL2
        by_cases hlk : k < r.targets.length
        · have HS := Lib.hid (HRR.out.1.ext F2.out.ext)
          obtain ⟨b2, o2, t, rfl, htk, cx⟩ := strs_get HS.out hlk
          have HTk := Lib.hid htk
          have HD2 : Hid (dupF L r.targets = (inS L2 t || dupF (L ++ r.targets.take (k + 1)) (r.targets.drop (k + 1)))) := by
            rw [Hid, HD.out, drop_get HTk.out, dupF_cons, take_succ_get HTk.out, ← List.append_assoc, HL2.out]
          have HIn := Lib.hid (In_c (c := c2) (F2.out.row (by decide)) (by omega) t)
          clear htk HD
          generalize inS L2 t = b1 at HIn HD2
          have cx' : wr.cell? ⟨b2, o2 + k, none⟩ = some (S t) := cx (X.here _ _)
          have hA9 : (L2 ++ [t]) = L ++ r.targets.take (k + 1) := by rw [HL2.out, take_succ_get HTk.out, List.append_assoc]
          have HA9 := Lib.hid hA9
          have cx2 : ∀ u, Ext wr u → u.cell? ⟨b2, o2 + k, none⟩ = some (S t) := fun u hu => cx ⟨u, hu⟩
          clear cx hA9
          go_wp2_with fail
          refine HIn.out.mono ?_
          rintro e u ⟨rfl, hu⟩
          have F3 := Lib.hid (F2.out.on hu)
          have cx3 : u.cell? ⟨b2, o2 + k, none⟩ = some (S t) := cx2 u hu
          clear cx2 cx'
          have C3 := Lib.hid (C2.out.keep hu id)
          have d0 : u.cell? ⟨g5, 0, none⟩ = some (.slice (some ⟨b2, o2, none⟩) r.targets.length tc) := C3.out.cell 0
          clear hu HIn F2 C2
          cases b1 with
          | true =>
            have HF2 : Hid (chkF m = 3) := by rw [Hid, HF.out, HO2.out, HD2.out]; rfl
            go_wp2_with fail
            go_ret
            exact ⟨by rw [HF2.out]; rfl, X0.out.then_ext F3.out.ext⟩
          | false =>
            have F4 := Lib.hid (F3.out.on ((Only.refl No u).alloc (.cells #[S t] 9)))
            go_wp2_with (first | (at_builtin; go_must (refine wpList_append (v := .slice A2 L2.length c2) (n := L2.length) (xs := L2.flatMap strF.enc) rfl st_ty rfl rfl rfl F4.out.own (rd_one u _ [S t]) (by simp [Value.oneCell']) (by omega) ?_); intro A4 c4 w5 hown5 hg5 hb5; have F5 := Lib.hid (F4.out.grow (ys := [t]) rfl hown5 hg5 hb5); have C5 := Lib.hid ((C3.out.alloc (.cells #[S t] 9)).keep ((Only.refl (fun b => (Value.slice A2 L2.length c2).ownBlock = some b) _).grown hg5 fun g hg => .inr hg) (fun e => own_ne_cs F4.out.own (C3.out.alloc (.cells #[S t] 9)) (by decide) _ e rfl)); clear hown5 hg5 hb5) | ((first | refine Mix.wpList_guarded rfl ?_ | refine Mix.wp_still (by kernel_rfl) (by kernel_rfl) ?_); (repeat' (first | (refine Mix.lex_quiet0 rfl rfl rfl ?_; intro K hK; go_big_quiet_op; go_big_quiet_on) | (refine Mix.lex_quietG rfl rfl rfl (by with_reducible rfl) rfl rfl ?_; intro K hK; go_big_quiet_op; go_big_quiet_on) | ((first | refine Mix.lex_skipT rfl rfl rfl (by with_reducible rfl) ?_ | refine Mix.lex_skipF rfl rfl rfl (by with_reducible rfl) ?_ | refine Mix.lex_skipU rfl rfl rfl (by with_reducible rfl) ?_); simp only [Act.put, List.setIfInBounds_toArray, List.set_cons_succ, List.set_cons_zero]) | (refine Mix.lex_part rfl rfl rfl rfl (fun hq => ?_) (fun hq => ?_) <;> (fail_if_success (guard_hyp hq :ₛ true = true)) <;> (fail_if_success (guard_hyp hq :ₛ false = false)) <;> first | (exfalso; cases hq; done) | (exfalso; simp only [decide_eq_true_eq, decide_eq_false_iff_not, beq_iff_eq, beq_eq_false_iff_ne, ne_eq, Int.not_lt, Int.not_le] at hq; omega) | simp only [Act.put, List.setIfInBounds_toArray, List.set_cons_succ, List.set_cons_zero]))); all_goals (refine Mix.lex_nil ?_)))
            go_roundw
            case rel => exact ⟨k + 1, by omega, by go_num, A4, c4, by rw [← HA9.out]; simp, by rw [← HA9.out]; exact F5.out, C5.out, by rw [HD2.out]; rfl⟩
            case measure => simp [intOf]; omega
        · obtain rfl : k = r.targets.length := by omega
          have hL3 : L2 = L ++ r.targets := by rw [HL2.out, List.take_of_length_le (Nat.le_refl _)]
          have HO3 : Hid (chkR m.phony m.rules [] = if ruleOk m.phony r = true then chkR m.phony (m.rules.drop (j + 1)) L2 else none) := by
            rw [Hid, HO2.out, HD.out, List.drop_of_length_le (Nat.le_refl _), hL3]
            rfl
          have HL3 := Lib.hid hL3
          clear HD HO2 hL3
          have hl1 : 0 < r.targets.length := HT12.1
          have HS := Lib.hid (HRR.out.1.ext F2.out.ext)
          obtain ⟨b2, o2, t0, rfl, ht0, ca⟩ := strs_get HS.out hl1
          rw [Nat.add_zero] at ca
          have CW := Lib.hid (C0.out.keep F2.out.ext id)
          have D1 : ∀ ξ : X wr No, ξ.v.cell? ⟨g1, 2, none⟩ = some (.slice pA m.phony.length pc) := CW.out.x id 2
          have D2 : ∀ ξ : X wr No, ξ.v.cell? ⟨g5, 0, none⟩ = some (.slice (some ⟨b2, o2, none⟩) r.targets.length tc) := C2.out.x id 0
          have D3 : ∀ ξ : X wr No, ξ.v.cell? ⟨g5, 2, none⟩ = some (.slice cA r.cmds.length cc) := C2.out.x id 2
          have HIn := Lib.hid (fun v (hv : Ext wr v) k => In_c (c := pc) ((R0.out.fp.ext F2.out.ext).ext hv) (by omega) k)
          have HRu : Hid (ruleOk m.phony r = ((inS m.phony t0 == decide (r.cmds.length = 0)) && !(decide (1 < r.targets.length) && inS m.phony (r.targets.getD 1 [])))) := by
            have : r.targets.headD [] = t0 := by
              rw [List.headD_eq_head?_getD, List.head?_eq_getElem?, ht0]
              rfl
            rw [Hid, ruleOk, this]
          have HI0 := Lib.hid (fun v hv => HIn.out v hv t0)
          clear ht0
          generalize inS m.phony t0 = b1 at HI0 HRu
          have hd2 : ((r.cmds.length : Int) == 0) = decide (r.cmds.length = 0) := by
            rw [Bool.eq_iff_iff, beq_iff_eq, decide_eq_true_iff]
            omega
          obtain ⟨q2, hq2⟩ : ∃ q, q = decide (r.cmds.length = 0) := ⟨_, rfl⟩
          rw [← hq2] at hd2 HRu
          clear hq2
          go_upto_region 13 with fail
          refine Mix.wp_draw [6] 100 (Cl wr No) (by kernel_rfl) (by kernel_rfl) (Cl.drew_ (X.here wr No)) ?_
          (repeat' (refine Mix.lex_quiet0 rfl rfl rfl ?_; intro K hK; go_big_quiet_op; go_big_quiet_on))
          ((first | refine Mix.lex_goes0 rfl rfl ?_ | refine Mix.lex_goesG rfl rfl rfl (by with_reducible rfl) rfl ?_); intro K hK; go_simp)
          refine (HI0.out _ ((Only.refl No wr).drew)).mono ?_
          rintro e u ⟨rfl, hu⟩
          have U := Lib.hid (((Only.refl No wr).drew).then_ext hu)
          refine ⟨_, rfl, hK _ _ (fun _ => Cl.of U.out) ?_⟩
          clear hK K hu D1 D2 D3
          simp only [Act.put, List.setIfInBounds_toArray, List.set_cons_succ, List.set_cons_zero]
          (repeat' (refine Mix.lex_quiet0 rfl rfl rfl ?_; intro K hK; go_big_quiet_op; go_big_quiet_on))
          refine Mix.lex_nil ?_
          have CU := Lib.hid (CW.out.keep U.out id)
          have CV := Lib.hid (C2.out.keep U.out id)
          have e0 : u.cell? ⟨g5, 0, none⟩ = some (.slice (some ⟨b2, o2, none⟩) r.targets.length tc) := CV.out.cell 0
          by_cases h1 : 1 < r.targets.length
          · have g1' : decide ((1 : Int) < (r.targets.length : Int)) = true := by rw [decide_eq_true_iff]; omega
            obtain ⟨b3, o3, t1, hA3, ht1, cb0⟩ := strs_get HS.out h1
            injection hA3 with hA3
            injection hA3 with hA31 hA32
            subst hA31
            subst hA32
            have HRu2 : Hid (ruleOk m.phony r = ((b1 == q2) && !(inS m.phony t1))) := by
              have : r.targets.getD 1 [] = t1 := by rw [List.getD_eq_getElem?_getD, ht1]; rfl
              rw [Hid, HRu.out, this, decide_eq_true h1, Bool.true_and]
            have HI1 := Lib.hid (fun v hv => HIn.out v hv t1)
            have cb : ∀ ξ : X u No, ξ.v.cell? ⟨b2, o2 + 1, none⟩ = some (S t1) := fun ξ => cb0 ⟨ξ.v, U.out.then_ext ξ.h⟩
            have D1 : ∀ ξ : X u No, ξ.v.cell? ⟨g1, 2, none⟩ = some (.slice pA m.phony.length pc) := CU.out.x id 2
            have D2 : ∀ ξ : X u No, ξ.v.cell? ⟨g5, 0, none⟩ = some (.slice (some ⟨b2, o2, none⟩) r.targets.length tc) := CV.out.x id 0
            clear ht1 cb0
            generalize inS m.phony t1 = b3 at HI1 HRu2
            go_upto_region 16 with fail
            refine Mix.wp_draw [6] 100 (Cl u No) (by kernel_rfl) (by kernel_rfl) (Cl.drew_ (X.here u No)) ?_
            clear e0
            (repeat' (refine Mix.lex_quiet0 rfl rfl rfl ?_; intro K hK; go_big_quiet_op; go_big_quiet_on))
            ((first | refine Mix.lex_goes0 rfl rfl ?_ | refine Mix.lex_goesG rfl rfl rfl (by with_reducible rfl) rfl ?_); intro K hK; go_simp)
            refine (HI1.out _ (U.out.then_ext (Only.refl No u).drew)).mono ?_
            rintro e u2 ⟨rfl, hu⟩
            have V := Lib.hid (((Only.refl No u).drew).then_ext hu)
            refine ⟨_, rfl, hK _ _ (fun _ => Cl.of V.out) ?_⟩
            clear hK K hu D1 D2 cb
            simp only [Act.put, List.setIfInBounds_toArray, List.set_cons_succ, List.set_cons_zero]
            (repeat' (refine Mix.lex_quiet0 rfl rfl rfl ?_; intro K hK; go_big_quiet_op; go_big_quiet_on))
            refine Mix.lex_nil ?_
            have U2 := Lib.hid (U.out.then_ext V.out)
            have e2 : u2.cell? ⟨g5, 2, none⟩ = some (.slice cA r.cmds.length cc) := (CV.out.keep V.out id).cell 2
            by_cases hok : b1 = q2 ∧ b3 = false
            · obtain ⟨rfl, rfl⟩ := hok
              have HRu3 : Hid (ruleOk m.phony r = true) := by rw [Hid, HRu2.out]; simp
              clear HRu HRu2
              cases b1 <;>
              · go_wp2_with fail
                go_roundw
                case rel => exact ⟨j + 1, by omega, by go_num, L2, A2, c2, rfl, F2.out.on U2.out, by omega, by rw [HO3.out, HRu3.out, HL3.out]; rfl⟩
                case measure => simp [intOf]; omega
            · have HRu3 : Hid (ruleOk m.phony r = false) := by
                rw [Hid, HRu2.out]
                revert hok
                cases b1 <;> cases q2 <;> cases b3 <;> simp
              have HF2 : Hid (chkF m = 3) := by rw [Hid, HF.out, HO3.out, HRu3.out]; rfl
              clear HRu HRu2
              cases b1 <;> cases q2 <;> cases b3 <;> first
              | (exfalso; exact hok ⟨rfl, rfl⟩)
              | (clear hok
                 go_wp2_with fail
                 go_ret
                 exact ⟨by rw [HF2.out]; rfl, X0.out.then_ext (F2.out.ext.then_ext U2.out)⟩)
          · have g1' : decide ((1 : Int) < (r.targets.length : Int)) = false := by rw [decide_eq_false_iff_not]; omega
            have HRu2 : Hid (ruleOk m.phony r = (b1 == q2)) := by
              rw [Hid, HRu.out, decide_eq_false h1]
              simp
            have e2 : u.cell? ⟨g5, 2, none⟩ = some (.slice cA r.cmds.length cc) := CV.out.cell 2
            by_cases hok : b1 = q2
            · obtain rfl := hok
              have HRu3 : Hid (ruleOk m.phony r = true) := by rw [Hid, HRu2.out]; simp
              clear HRu HRu2
              cases b1 <;>
              · go_wp2_with fail
                go_roundw
                case rel => exact ⟨j + 1, by omega, by go_num, L2, A2, c2, rfl, F2.out.on U.out, by omega, by rw [HO3.out, HRu3.out, HL3.out]; rfl⟩
                case measure => simp [intOf]; omega
            · have HRu3 : Hid (ruleOk m.phony r = false) := by
                rw [Hid, HRu2.out]
                revert hok
                cases b1 <;> cases q2 <;> simp
              have HF2 : Hid (chkF m = 3) := by rw [Hid, HF.out, HO3.out, HRu3.out]; rfl
              clear HRu HRu2
              cases b1 <;> cases q2 <;> first
              | (exfalso; exact hok rfl)
              | (clear hok
                 go_wp2_with fail
                 go_ret
                 exact ⟨by rw [HF2.out]; rfl, X0.out.then_ext (F2.out.ext.then_ext U.out)⟩)
    · obtain rfl : j = m.rules.length := by omega
      have HC : Hid (chkF m = if m.phony.all (inS L) = true then 0 else 3) := by
        rw [Hid, HF.out, HO.out, List.drop_of_length_le (Nat.le_refl _)]
        rfl
      have CW := Lib.hid (C0.out.keep FL.out.ext id)
      have c2 : wr.cell? ⟨g1, 2, none⟩ = some (.slice pA m.phony.length pc) := CW.out.cell 2
      have XW := Lib.hid FL.out.ext
      have SL := Lib.hid (FL.out.row (by decide))
      have SP := Lib.hid (R0.out.fp.ext FL.out.ext)
      dsimp only at SP
      clear HO FL HF
      go_wp2_with fail
      go_loopw [10] (fun i wq => ∃ k : Nat, k ≤ m.phony.length ∧ i = .int .i64 k ∧ (m.phony.take k).all (inS L) = true ∧ ∃ ξ : X wr No, wq = ξ.v) (fun i _ => m.phony.length - (intOf i).toNat)
      case atStart => exact ⟨0, Nat.zero_le _, rfl, rfl, X.here _ _, rfl⟩
      case round =>
        obtain ⟨k, hk, rfl, hT, ξ, rfl⟩ := hrel
        have HT := Lib.hid hT
        have c3 : ξ.v.cell? ⟨g1, 2, none⟩ = some (.slice pA m.phony.length pc) := CW.out.x id 2 ξ
        clear hT c2
        by_cases hlk : k < m.phony.length
        · obtain ⟨b, o, f, rfl, hx, c0⟩ := strs_get (w := wr) SP.out hlk
          have HX := Lib.hid hx
          have HIn := Lib.hid (fun v (hv : Ext wr v) => In_c (c := c') (SL.out.ext hv) (by omega) f)
          obtain ⟨p, hp⟩ : ∃ p, inS L f = p := ⟨_, rfl⟩
          rw [hp] at HIn
          have HP := Lib.hid hp
          clear hx hp
          go_wp2_with fail
          refine (HIn.out _ ξ.h).mono ?_
          rintro e u ⟨rfl, hu⟩
          have U := Lib.hid (ξ.h.then_ext hu)
          clear hu HIn
          cases p with
          | true =>
            go_wp2_with fail
            go_roundw
            case rel => exact ⟨k + 1, by omega, by go_num, by rw [take_succ_get HX.out, List.all_append, HT.out]; simp [HP.out], ⟨_, U.out⟩, rfl⟩
            case measure => simp [intOf]; omega
          | false =>
            have HF2 : Hid (chkF m = 3) := HC.out.trans (if_neg (fun h => by
              have := List.all_eq_true.1 h f (List.mem_of_getElem? HX.out)
              rw [HP.out] at this
              cases this))
            go_wp2_with fail
            go_ret
            exact ⟨by rw [HF2.out]; rfl, X0.out.then_ext (XW.out.then_ext U.out)⟩
        · obtain rfl : k = m.phony.length := by omega
          have HF2 : Hid (chkF m = 0) := HC.out.trans (if_pos (by
            have := HT.out
            rwa [List.take_of_length_le (Nat.le_refl _)] at this))
          go_wp2_with fail
          go_ret
          exact ⟨by rw [HF2.out]; rfl, X0.out.then_ext (XW.out.then_ext ξ.h)⟩
set_option maxRecDepth 100000 in
set_option maxHeartbeats 8000000 in
theorem MakeOf_c {w : World} (s : Str) (hs : s.length ≤ 100000) : Calls Tryz.prog 10 #[S s] w (HdRes w (parseF s)) := by
  obtain ⟨g2, hg2⟩ : ∃ g, g = w.heap.size := ⟨_, rfl⟩
  obtain ⟨w1, hw1⟩ : ∃ w1, w1 = w.alloc (.cells #[.slice none 0 0, .slice none 0 0, .slice none 0 0] makeT) := ⟨_, rfl⟩
  have x1 : Ext w w1 := by rw [hw1]; exact (Only.refl No w).alloc _
  have C1 : Hid (Cs w1 g2 makeT #[.slice none 0 0, .slice none 0 0, .slice none 0 0]) := by rw [hw1, hg2]; exact Cs.new _ _ _
  have hz1 : g2 < w1.heap.size := by rw [hw1, hg2]; simp
  have hz0 : w.heap.size ≤ g2 := by omega
  have HX : Hid (∀ u v, Ext w1 u → Only (fun b => b = g2) u v → Ext w v) := fun u v h1 h2 => (x1.then_ext h1).trans h2 fun b hb e => by have e : b = g2 := e; omega
  have HP : Hid (parseF s = if 600 < s.length then (mk0, 2) else if (foldF (splB 10 s) mk0).2 ≠ 0 then (mk0, (foldF (splB 10 s) mk0).2) else if chkF (foldF (splB 10 s) mk0).1 = 0 then ((foldF (splB 10 s) mk0).1, 0) else (mk0, chkF (foldF (splB 10 s) mk0).1)) := rfl
  have X0 : Hid (Ext w1 w1) := Only.refl _ _
  clear x1
  by_cases hl : 600 < s.length
  · have g6 : decide ((600 : Int) < (s.length : Int)) = true := by rw [decide_eq_true_iff]; omega
    have HR := Lib.hid (HP.out.trans (if_pos hl))
    go_enter Tryz.func10, Tryz.ntmps10
    go_upto_region 1 with fail
    rw [← hw1, ← hg2]
    clear hw1 hg2
    have e0 : w1.cell? ⟨g2, 0, none⟩ = some (.slice none 0 0) := C1.out.cell 0
    have e1 : w1.cell? ⟨g2, 1, none⟩ = some (.slice none 0 0) := C1.out.cell 1
    have e2 : w1.cell? ⟨g2, 2, none⟩ = some (.slice none 0 0) := C1.out.cell 2
    have z0 := C1.out.frozen 0
    have z1 := C1.out.frozen 1
    have z2 := C1.out.frozen 2
    have HO : Hid (∀ a b c, Only (fun b => b = g2) w1 (((w1.setCell ⟨g2, 0, none⟩ a).setCell ⟨g2, 1, none⟩ b).setCell ⟨g2, 2, none⟩ c)) := fun a b c => (((Only.refl _ _).at_ 0 a).at_ 1 b).at_ 2 c
    have HS : Hid (∀ a b c, Cs (((w1.setCell ⟨g2, 0, none⟩ a).setCell ⟨g2, 1, none⟩ b).setCell ⟨g2, 2, none⟩ c) g2 makeT #[a, b, c]) := fun a b c => ((C1.out.set_ 0 a).set_ 1 b).set_ 2 c
    go_wp2_with fail
    have hl := load_mk (HS.out (.slice none 0 0) (.slice none 0 0) (.slice none 0 0))
    refine bodyPost_cell (p := 2) (u := 3) (ty := makeT) (ad := ⟨g2, 0, none⟩) rfl rfl rfl hl ?_
    rw [HR.out]
    exact ⟨mkV0, [], rfl, makeS0 _, HX.out _ _ (X0.out) (HO.out _ _ _)⟩
  · have g6 : decide ((600 : Int) < (s.length : Int)) = false := by rw [decide_eq_false_iff_not]; omega
    have HP2 := Lib.hid (HP.out.trans (if_neg hl))
    clear HP
    obtain ⟨g4, hg4⟩ : ∃ g, g = w1.heap.size := ⟨_, rfl⟩
    obtain ⟨w2, hw2⟩ : ∃ u, u = w1.alloc (.cells #[.slice none 0 0, .slice none 0 0, .slice none 0 0] makeT) := ⟨_, rfl⟩
    have x2 : Ext w1 w2 := by rw [hw2]; exact (Only.refl No w1).alloc _
    have C2 : Hid (Cs w2 g4 makeT #[.slice none 0 0, .slice none 0 0, .slice none 0 0]) := by
      rw [hw2, hg4]
      exact Cs.new _ _ _
    have hz4 : w1.heap.size ≤ g4 := Nat.le_of_eq hg4.symm
    have X2 := Lib.hid x2
    have hll : ∀ l ∈ splB 10 s, l.length ≤ 600 := fun l hx => by have := splB_mem 10 s l hx; omega
    have hsl := splB_le 10 s
    have HSp := Lib.hid (RSplit_c s (by omega) 10 10 rfl w2)
    have HLl := Lib.hid hll
    clear x2 hll
    obtain ⟨ls, hls⟩ : ∃ l, l = splB 10 s := ⟨_, rfl⟩
    rw [← hls] at HSp HLl HP2 hsl
    clear hls
    go_enter Tryz.func10, Tryz.ntmps10
    go_upto_region 1 with fail
    rw [← hw1, ← hg2]
    clear hw1 hg2
    go_upto_region 4 with fail
    rw [← hw2, ← hg4]
    clear hw2 hg4
    go_wp2_with fail
    refine HSp.out.mono ?_
    rintro e w3 ⟨A3, c3, rfl, hF3⟩
    have F3 := Lib.hid (Fresh.from hF3 X2.out)
    have C3 := Lib.hid (C2.out.keep hF3.ext id)
    clear hF3 C2 HSp X2
    go_wp2_with fail
    go_loopw [6] (fun i wr => ∃ j : Nat, j ≤ ls.length ∧ i = .int .i64 j ∧ Fresh strF 9 w1 wr A3 c3 ls ∧ ∃ vA vc rA rc pA pc rs m, Cs wr g4 makeT #[.slice vA (Mk.vars m).length vc, .slice rA (Mk.rules m).length rc, .slice pA (Mk.phony m).length pc] ∧ MakeS wr ⟨vA, vc, rA, rc, pA, pc⟩ rs m ∧ m.Fit j ∧ foldF ls mk0 = foldF (ls.drop j) m) (fun i _ => ls.length - (intOf i).toNat)
    case atStart => exact ⟨0, Nat.zero_le _, rfl, F3.out, none, 0, none, 0, none, 0, [], mk0, C3.out, makeS0 _, mk0_fit, rfl⟩
    case round =>
      obtain ⟨j, hj, rfl, hF, vA, vc, rA, rc, pA, pc, rs, m, hC, hM, hf, hfo⟩ := hrel
      have F := Lib.hid hF
      have C := Lib.hid hC
      have M := Lib.hid hM
      have HFt := Lib.hid hf
      have HFo := Lib.hid hfo
      have D := Lib.hid (C1.out.keep hF.ext id)
      have q0 : wr.cell? ⟨g4, 0, none⟩ = some (.slice vA m.vars.length vc) := hC.cell 0
      have q1 : wr.cell? ⟨g4, 1, none⟩ = some (.slice rA m.rules.length rc) := hC.cell 1
      have q2 : wr.cell? ⟨g4, 2, none⟩ = some (.slice pA m.phony.length pc) := hC.cell 2
      clear hF hC hM hf hfo F3 C3
      by_cases hlt : j < ls.length
      · clear q0 q1 q2
        obtain ⟨b, o, l, rfl, hx, cx⟩ := strs_get (F.out.row (by decide)) hlt
        have HXl := Lib.hid hx
        have hll : l.length ≤ 600 := HLl.out l (List.mem_of_getElem? hx)
        have D0 : ∀ ξ : X wr No, ξ.v.cell? ⟨g4, 0, none⟩ = some (.slice vA m.vars.length vc) := C.out.x id 0
        have D1 : ∀ ξ : X wr No, ξ.v.cell? ⟨g4, 1, none⟩ = some (.slice rA m.rules.length rc) := C.out.x id 1
        have D2 : ∀ ξ : X wr No, ξ.v.cell? ⟨g4, 2, none⟩ = some (.slice pA m.phony.length pc) := C.out.x id 2
        have HLn := Lib.hid (fun (v : World) (hv : Ext wr v) => Lined_c (M.out.ext hv) HFt.out (by omega) l hll)
        have HFo2 : Hid (foldF ls mk0 = if (lineF m l).2 = 0 then foldF (ls.drop (j + 1)) (lineF m l).1 else (mk0, (lineF m l).2)) := by
          rw [Hid, HFo.out, drop_get HXl.out]
          rfl
        clear hx HFo
        go_upto_region 8 with fail
        go_cut [7, 8] from 23 to 32 (fun x f wx => ∃ g7 vA' vc' rA' rc' pA' pc' rs', x = .pointer (some ⟨g7, 0, none⟩) ∧ f = .int .i64 (lineF m l).2 ∧ Ext wr wx ∧ MakeS wx ⟨vA', vc', rA', rc', pA', pc'⟩ rs' (lineF m l).1 ∧ Cs wx g7 makeT #[.slice vA' (lineF m l).1.vars.length vc', .slice rA' (lineF m l).1.rules.length rc', .slice pA' (lineF m l).1.phony.length pc'] ∧ wr.heap.size ≤ g7)
        case first =>
          refine Mix.wp_tree 12 [5, 9, 10] (Cl wr No) rfl (by kernel_rfl) (by kernel_rfl) (Cl.drew_ (X.here wr No)) ?_
          obtain ⟨μ0, hμ0⟩ : ∃ u, u = wr.drew := ⟨_, rfl⟩
          have xμ : Ext wr μ0 := by rw [hμ0]; exact (Only.refl No wr).drew
          rw [← hμ0]
          clear hμ0
          (refine Mix.tree_quiet (i := 0) (by kernel_rfl) rfl rfl rfl rfl ?_; intro K hK; go_big_quiet_op; go_big_quiet_on); (refine Mix.tree_quiet (i := 1) (by kernel_rfl) rfl rfl rfl rfl ?_; intro K hK; go_big_quiet_op; go_big_quiet_on); (refine Mix.tree_quiet (i := 2) (by kernel_rfl) rfl rfl rfl rfl ?_; intro K hK; go_big_quiet_op; go_big_quiet_on); (refine Mix.tree_quiet (i := 3) (by kernel_rfl) rfl rfl rfl rfl ?_; intro K hK; go_big_quiet_op; go_big_quiet_on); (refine Mix.tree_quiet (i := 4) (by kernel_rfl) rfl rfl rfl rfl ?_; intro K hK; go_big_quiet_op; go_big_quiet_on)
          refine Mix.tree_two (i := 5) (j := 9) (by kernel_rfl) (by kernel_rfl) rfl rfl rfl rfl rfl rfl ?_ ?_
          · intro K hK
            go_simp
            refine (HLn.out _ (xμ)).mono ?_
            rintro e' u5 ⟨v', rs', rfl, hM5, hx5⟩
            obtain ⟨vA', vc', rA', rc', pA', pc'⟩ := v'
            refine ⟨_, rfl, hK _ _ (Cl.of ((xμ).then_ext hx5)) ?_⟩
            clear hK K
            simp only [Act.put, List.setIfInBounds_toArray, List.set_cons_succ, List.set_cons_zero]
            (refine Mix.tree_quiet (i := 6) (by kernel_rfl) rfl rfl rfl rfl ?_; intro K hK; go_big_quiet_op; go_big_quiet_on); (refine Mix.tree_quiet (i := 7) (by kernel_rfl) rfl rfl rfl rfl ?_; intro K hK; go_big_quiet_op; go_big_quiet_on); (refine Mix.tree_quiet (i := 8) (by kernel_rfl) rfl rfl rfl rfl ?_; intro K hK; go_big_quiet_op; go_big_quiet_on)
            (refine Mix.tree_one (i := 9) (by kernel_rfl) (by kernel_rfl) rfl rfl rfl ?_; intro K hK; go_simp)
            obtain ⟨va, hva⟩ : ∃ u, u = (u5).alloc (.cells #[.slice none 0 0, .slice none 0 0, .slice none 0 0] makeT) := ⟨_, rfl⟩
            have yva : Ext (u5) va := by rw [hva]; exact (Only.refl No _).alloc _
            obtain ⟨g7, hg7⟩ : ∃ g, g = (u5).heap.size := ⟨_, rfl⟩
            have hC : Cs va g7 makeT #[.slice none 0 0, .slice none 0 0, .slice none 0 0] := by rw [hva, hg7]; exact Cs.new _ _ _
            have hG7 : wr.heap.size ≤ g7 := by rw [hg7]; exact (xμ.then_ext hx5).size
            rw [← hva, ← hg7]
            refine hK _ _ (Cl.of ((xμ.then_ext hx5).then_ext yva)) ?_
            clear hK K hva hg7
            simp only [Act.put, List.setIfInBounds_toArray, List.set_cons_succ, List.set_cons_zero]
            have hCb : Cs va g7 makeT #[.slice none 0 0, .slice none 0 0, .slice none 0 0] := hC
            have hMb : MakeS va ⟨vA', vc', rA', rc', pA', pc'⟩ rs' (lineF m l).1 := hM5.ext yva
            have k0 : va.cell? ⟨g7, 0, none⟩ = some (.slice none 0 0) := hCb.cell 0
            have k1 : va.cell? ⟨g7, 1, none⟩ = some (.slice none 0 0) := hCb.cell 1
            have k2 : va.cell? ⟨g7, 2, none⟩ = some (.slice none 0 0) := hCb.cell 2
            have z0 := hCb.frozen 0
            have z1 := hCb.frozen 1
            have z2 := hCb.frozen 2
            obtain ⟨v9, hv9⟩ : ∃ v9, v9 = (((va.setCell ⟨g7, 0, none⟩ (.slice vA' (lineF m l).1.vars.length vc')).setCell ⟨g7, 1, none⟩ (.slice rA' (lineF m l).1.rules.length rc')).setCell ⟨g7, 2, none⟩ (.slice pA' (lineF m l).1.phony.length pc')) := ⟨_, rfl⟩
            have O9 : Only (fun q => q = g7) va v9 := by rw [hv9]; exact (((Only.refl _ _).at_ 0 _).at_ 1 _).at_ 2 _
            have C9 : Cs v9 g7 makeT #[.slice vA' (lineF m l).1.vars.length vc', .slice rA' (lineF m l).1.rules.length rc', .slice pA' (lineF m l).1.phony.length pc'] := by rw [hv9]; exact ((hCb.set_ 0 _).set_ 1 _).set_ 2 _
            have x9 : Ext wr v9 := ((xμ.then_ext hx5).then_ext yva).trans O9 fun q hq e => by have e : q = g7 := e; omega
            have M9 := hMb.at_ hCb O9
            (refine Mix.tree_one (i := 10) (by kernel_rfl) (by kernel_rfl) rfl rfl rfl ?_; intro K hK; go_simp)
            rw [← hv9]
            refine hK _ _ (Cl.of x9) ?_
            clear hK K hv9 k0 k1 k2 z0 z1 z2
            simp only [Act.put, List.setIfInBounds_toArray, List.set_cons_succ, List.set_cons_zero]
            (refine Mix.tree_quiet (i := 11) (by kernel_rfl) rfl rfl rfl rfl ?_; intro K hK; go_big_quiet_op; go_big_quiet_on)
            refine Mix.tree_nil ?_
            go_wp2_with fail
            go_meet
            exact ⟨g7, vA', vc', rA', rc', pA', pc', rs', rfl, rfl, x9, M9, C9, by omega⟩
          · intro K hK
            go_simp
            obtain ⟨va, hva⟩ : ∃ u, u = (μ0).alloc (.cells #[.slice none 0 0, .slice none 0 0, .slice none 0 0] makeT) := ⟨_, rfl⟩
            have yva : Ext (μ0) va := by rw [hva]; exact (Only.refl No _).alloc _
            obtain ⟨g7, hg7⟩ : ∃ g, g = (μ0).heap.size := ⟨_, rfl⟩
            have hC : Cs va g7 makeT #[.slice none 0 0, .slice none 0 0, .slice none 0 0] := by rw [hva, hg7]; exact Cs.new _ _ _
            have hG7 : wr.heap.size ≤ g7 := by rw [hg7]; exact (xμ).size
            rw [← hva, ← hg7]
            refine hK _ _ (Cl.of ((xμ).then_ext yva)) ?_
            clear hK K hva hg7
            simp only [Act.put, List.setIfInBounds_toArray, List.set_cons_succ, List.set_cons_zero]
            refine Mix.tree_one (i := 5) (by kernel_rfl) (by kernel_rfl) rfl rfl rfl ?_
            intro K hK
            go_simp
            refine (HLn.out _ (xμ.then_ext yva)).mono ?_
            rintro e' u5 ⟨v', rs', rfl, hM5, hx5⟩
            obtain ⟨vA', vc', rA', rc', pA', pc'⟩ := v'
            refine ⟨_, rfl, hK _ _ (Cl.of ((xμ.then_ext yva).then_ext hx5)) ?_⟩
            clear hK K
            simp only [Act.put, List.setIfInBounds_toArray, List.set_cons_succ, List.set_cons_zero]
            (refine Mix.tree_quiet (i := 6) (by kernel_rfl) rfl rfl rfl rfl ?_; intro K hK; go_big_quiet_op; go_big_quiet_on); (refine Mix.tree_quiet (i := 7) (by kernel_rfl) rfl rfl rfl rfl ?_; intro K hK; go_big_quiet_op; go_big_quiet_on); (refine Mix.tree_quiet (i := 8) (by kernel_rfl) rfl rfl rfl rfl ?_; intro K hK; go_big_quiet_op; go_big_quiet_on)
            have hCb : Cs u5 g7 makeT #[.slice none 0 0, .slice none 0 0, .slice none 0 0] := hC.keep hx5 id
            have hMb : MakeS u5 ⟨vA', vc', rA', rc', pA', pc'⟩ rs' (lineF m l).1 := hM5
            have k0 : u5.cell? ⟨g7, 0, none⟩ = some (.slice none 0 0) := hCb.cell 0
            have k1 : u5.cell? ⟨g7, 1, none⟩ = some (.slice none 0 0) := hCb.cell 1
            have k2 : u5.cell? ⟨g7, 2, none⟩ = some (.slice none 0 0) := hCb.cell 2
            have z0 := hCb.frozen 0
            have z1 := hCb.frozen 1
            have z2 := hCb.frozen 2
            obtain ⟨v9, hv9⟩ : ∃ v9, v9 = (((u5.setCell ⟨g7, 0, none⟩ (.slice vA' (lineF m l).1.vars.length vc')).setCell ⟨g7, 1, none⟩ (.slice rA' (lineF m l).1.rules.length rc')).setCell ⟨g7, 2, none⟩ (.slice pA' (lineF m l).1.phony.length pc')) := ⟨_, rfl⟩
            have O9 : Only (fun q => q = g7) u5 v9 := by rw [hv9]; exact (((Only.refl _ _).at_ 0 _).at_ 1 _).at_ 2 _
            have C9 : Cs v9 g7 makeT #[.slice vA' (lineF m l).1.vars.length vc', .slice rA' (lineF m l).1.rules.length rc', .slice pA' (lineF m l).1.phony.length pc'] := by rw [hv9]; exact ((hCb.set_ 0 _).set_ 1 _).set_ 2 _
            have x9 : Ext wr v9 := ((xμ.then_ext yva).then_ext hx5).trans O9 fun q hq e => by have e : q = g7 := e; omega
            have M9 := hMb.at_ hCb O9
            (refine Mix.tree_one (i := 10) (by kernel_rfl) (by kernel_rfl) rfl rfl rfl ?_; intro K hK; go_simp)
            rw [← hv9]
            refine hK _ _ (Cl.of x9) ?_
            clear hK K hv9 k0 k1 k2 z0 z1 z2
            simp only [Act.put, List.setIfInBounds_toArray, List.set_cons_succ, List.set_cons_zero]
            (refine Mix.tree_quiet (i := 11) (by kernel_rfl) rfl rfl rfl rfl ?_; intro K hK; go_big_quiet_op; go_big_quiet_on)
            refine Mix.tree_nil ?_
            go_wp2_with fail
            go_meet
            exact ⟨g7, vA', vc', rA', rc', pA', pc', rs', rfl, rfl, x9, M9, C9, by omega⟩
        case rest =>
          obtain ⟨g7, vA', vc', rA', rc', pA', pc', rs', hc7, hc8, hx, hM, hC7, hG7⟩ := hcut
          subst hc7
          subst hc8
          have X5 := Lib.hid hx
          have M5 := Lib.hid hM
          have C5 := Lib.hid hC7
          have hnn := lineF_nonneg m l
          have CW := Lib.hid (C.out.keep hx id)
          have DW := Lib.hid (D.out.keep hx id)
          have FW := Lib.hid (F.out.on hx)
          have hf2 := Lib.hid (lineF_fit HFt.out (s := l) hll)
          clear hx hM hC7 D0 D1 D2 HLn cx D C F
          by_cases he : (lineF m l).2 = 0
          · have HFo3 := Lib.hid (HFo2.out.trans (if_pos he))
            have gz : decide ((0 : Int) < (lineF m l).2) = false := by rw [decide_eq_false_iff_not]; omega
            have y0 : wc.cell? ⟨g7, 0, none⟩ = some (.slice vA' (lineF m l).1.vars.length vc') := C5.out.cell 0
            have y1 : wc.cell? ⟨g7, 1, none⟩ = some (.slice rA' (lineF m l).1.rules.length rc') := C5.out.cell 1
            have y2 : wc.cell? ⟨g7, 2, none⟩ = some (.slice pA' (lineF m l).1.phony.length pc') := C5.out.cell 2
            have q0 : wc.cell? ⟨g4, 0, none⟩ = some (.slice vA m.vars.length vc) := CW.out.cell 0
            have q1 : wc.cell? ⟨g4, 1, none⟩ = some (.slice rA m.rules.length rc) := CW.out.cell 1
            have q2 : wc.cell? ⟨g4, 2, none⟩ = some (.slice pA m.phony.length pc) := CW.out.cell 2
            have z0 := CW.out.frozen 0
            have z1 := CW.out.frozen 1
            have z2 := CW.out.frozen 2
            obtain ⟨wG, hwG⟩ : ∃ u, u = (((wc.setCell ⟨g4, 0, none⟩ (.slice vA' (lineF m l).1.vars.length vc')).setCell ⟨g4, 1, none⟩ (.slice rA' (lineF m l).1.rules.length rc')).setCell ⟨g4, 2, none⟩ (.slice pA' (lineF m l).1.phony.length pc')) := ⟨_, rfl⟩
            have OG : Only (fun b => b = g4) wc wG := by rw [hwG]; exact (((Only.refl _ _).at_ 0 _).at_ 1 _).at_ 2 _
            have CG : Hid (Cs wG g4 makeT #[.slice vA' (lineF m l).1.vars.length vc', .slice rA' (lineF m l).1.rules.length rc', .slice pA' (lineF m l).1.phony.length pc']) := by rw [hwG]; exact ((CW.out.set_ 0 _).set_ 1 _).set_ 2 _
            have MG := Lib.hid (M5.out.at_ CW.out OG)
            have EG : Ext w1 wG := FW.out.ext.trans OG fun b hb e => by have e : b = g4 := e; omega
            have FG := Lib.hid (FW.out.keep OG EG (own_ne_cs FW.out.own CW.out (by decide)))
            clear OG EG
            go_wp2_with fail
            rw [← hwG]
            go_roundw
            case rel => exact ⟨j + 1, by omega, by go_num, FG.out, vA', vc', rA', rc', pA', pc', rs', (lineF m l).1, CG.out, MG.out, hf2.out, HFo3.out⟩
            case measure => simp [intOf]; omega
          · have gz : decide ((0 : Int) < (lineF m l).2) = true := by rw [decide_eq_true_iff]; omega
            have HR : Hid (parseF s = (mk0, (lineF m l).2)) := by
              rw [Hid, HP2.out, HFo2.out.trans (if_neg he)]
              exact if_pos he
            have e0 : wc.cell? ⟨g2, 0, none⟩ = some (.slice none 0 0) := DW.out.cell 0
            have e1 : wc.cell? ⟨g2, 1, none⟩ = some (.slice none 0 0) := DW.out.cell 1
            have e2 : wc.cell? ⟨g2, 2, none⟩ = some (.slice none 0 0) := DW.out.cell 2
            have z0 := DW.out.frozen 0
            have z1 := DW.out.frozen 1
            have z2 := DW.out.frozen 2
            have HO : Hid (∀ a b c, Only (fun b => b = g2) wc (((wc.setCell ⟨g2, 0, none⟩ a).setCell ⟨g2, 1, none⟩ b).setCell ⟨g2, 2, none⟩ c)) := fun a b c => (((Only.refl _ _).at_ 0 a).at_ 1 b).at_ 2 c
            have HS : Hid (∀ a b c, Cs (((wc.setCell ⟨g2, 0, none⟩ a).setCell ⟨g2, 1, none⟩ b).setCell ⟨g2, 2, none⟩ c) g2 makeT #[a, b, c]) := fun a b c => ((DW.out.set_ 0 a).set_ 1 b).set_ 2 c
            go_wp2_with fail
            have hl := load_mk (HS.out (.slice none 0 0) (.slice none 0 0) (.slice none 0 0))
            refine bodyPost_cell (p := 2) (u := 3) (ty := makeT) (ad := ⟨g2, 0, none⟩) rfl rfl rfl hl ?_
            rw [HR.out]
            exact ⟨mkV0, [], rfl, makeS0 _, HX.out _ _ (FW.out.ext) (HO.out _ _ _)⟩
      · obtain rfl : j = ls.length := by omega
        have HFo2 : Hid (foldF ls mk0 = (m, 0)) := by
          rw [Hid, HFo.out, List.drop_of_length_le (Nat.le_refl _)]
          rfl
        have HMf := Lib.hid (MakeFault_c M.out.here HFt.out.r (fun x hx => ⟨(HFt.out.rt x hx).1, (HFt.out.rt x hx).2.1⟩) (by have := HFt.out.p; omega))
        have hcc := chkF_cases m
        go_upto_region 12 with fail
        go_wp2_with fail
        refine HMf.out.mono ?_
        rintro e u5 ⟨rfl, hx⟩
        have M5 := Lib.hid (M.out.ext hx)
        have CW := Lib.hid (C.out.keep hx id)
        have DW := Lib.hid (D.out.keep hx id)
        have XW := Lib.hid (F.out.ext.then_ext hx)
        clear hx HMf q0 q1 q2
        by_cases he : chkF m = 0
        · have gz : decide ((0 : Int) < chkF m) = false := by rw [decide_eq_false_iff_not]; omega
          have HR : Hid (parseF s = (m, 0)) := by
            rw [Hid, HP2.out, HFo2.out]
            exact (if_neg (by simp)).trans (if_pos he)
          have q0 : u5.cell? ⟨g4, 0, none⟩ = some (.slice vA m.vars.length vc) := CW.out.cell 0
          have q1 : u5.cell? ⟨g4, 1, none⟩ = some (.slice rA m.rules.length rc) := CW.out.cell 1
          have q2 : u5.cell? ⟨g4, 2, none⟩ = some (.slice pA m.phony.length pc) := CW.out.cell 2
          have e0 : u5.cell? ⟨g2, 0, none⟩ = some (.slice none 0 0) := DW.out.cell 0
          have e1 : u5.cell? ⟨g2, 1, none⟩ = some (.slice none 0 0) := DW.out.cell 1
          have e2 : u5.cell? ⟨g2, 2, none⟩ = some (.slice none 0 0) := DW.out.cell 2
          have z0 := DW.out.frozen 0
          have z1 := DW.out.frozen 1
          have z2 := DW.out.frozen 2
          have HO : Hid (∀ a b c, Only (fun b => b = g2) u5 (((u5.setCell ⟨g2, 0, none⟩ a).setCell ⟨g2, 1, none⟩ b).setCell ⟨g2, 2, none⟩ c)) := fun a b c => (((Only.refl _ _).at_ 0 a).at_ 1 b).at_ 2 c
          have HS : Hid (∀ a b c, Cs (((u5.setCell ⟨g2, 0, none⟩ a).setCell ⟨g2, 1, none⟩ b).setCell ⟨g2, 2, none⟩ c) g2 makeT #[a, b, c]) := fun a b c => ((DW.out.set_ 0 a).set_ 1 b).set_ 2 c
          go_wp2_with fail
          have hl := load_mk (HS.out (.slice vA m.vars.length vc) (.slice rA m.rules.length rc) (.slice pA m.phony.length pc))
          refine bodyPost_cell (p := 2) (u := 3) (ty := makeT) (ad := ⟨g2, 0, none⟩) rfl rfl rfl hl ?_
          rw [HR.out]
          exact ⟨⟨vA, vc, rA, rc, pA, pc⟩, rs, rfl, M5.out.at_ DW.out (HO.out _ _ _), HX.out _ _ (XW.out) (HO.out _ _ _)⟩
        · have gz : decide ((0 : Int) < chkF m) = true := by rw [decide_eq_true_iff]; omega
          have HR : Hid (parseF s = (mk0, chkF m)) := by
            rw [Hid, HP2.out, HFo2.out]
            exact (if_neg (by simp)).trans (if_neg he)
          have e0 : u5.cell? ⟨g2, 0, none⟩ = some (.slice none 0 0) := DW.out.cell 0
          have e1 : u5.cell? ⟨g2, 1, none⟩ = some (.slice none 0 0) := DW.out.cell 1
          have e2 : u5.cell? ⟨g2, 2, none⟩ = some (.slice none 0 0) := DW.out.cell 2
          have z0 := DW.out.frozen 0
          have z1 := DW.out.frozen 1
          have z2 := DW.out.frozen 2
          have HO : Hid (∀ a b c, Only (fun b => b = g2) u5 (((u5.setCell ⟨g2, 0, none⟩ a).setCell ⟨g2, 1, none⟩ b).setCell ⟨g2, 2, none⟩ c)) := fun a b c => (((Only.refl _ _).at_ 0 a).at_ 1 b).at_ 2 c
          have HS : Hid (∀ a b c, Cs (((u5.setCell ⟨g2, 0, none⟩ a).setCell ⟨g2, 1, none⟩ b).setCell ⟨g2, 2, none⟩ c) g2 makeT #[a, b, c]) := fun a b c => ((DW.out.set_ 0 a).set_ 1 b).set_ 2 c
          go_wp2_with fail
          have hl := load_mk (HS.out (.slice none 0 0) (.slice none 0 0) (.slice none 0 0))
          refine bodyPost_cell (p := 2) (u := 3) (ty := makeT) (ad := ⟨g2, 0, none⟩) rfl rfl rfl hl ?_
          rw [HR.out]
          exact ⟨mkV0, [], rfl, makeS0 _, HX.out _ _ (XW.out) (HO.out _ _ _)⟩
theorem groupsF_b {m : Mk} {l : List File} (hb : GBd m l) (goal : Str) : (∀ g ∈ (groupsF m l goal).1, GB3 g) ∧ (groupsF m l goal).1.length ≤ 10 ∧ 0 ≤ (groupsF m l goal).2 := by
  have h1 := visitF_all (ruleF_b3 hb) 100 [] [] goal (fun g hg => by cases hg)
  have h2 := visitF_len (m := m) (l := l) 100 [] [] goal (Nat.zero_le _)
  have h3 := visitF_nonneg m l 100 [] [] goal
  unfold groupsF
  split
  · exact ⟨(fun g hg => by cases hg), Nat.zero_le _, by simp⟩
  · split
    · exact ⟨(fun g hg => by cases hg), Nat.zero_le _, h3⟩
    · exact ⟨h1, h2, Int.le_refl _⟩
end Go.Proofs.YtnhaekifcieeoaaGreatDoor
