/- Put together: Rl0, Rl1, Rl2. -/
import Derived.Test.YtnhaekifcieeoaaGreatDoorPk21
namespace Go.Proofs.YtnhaekifcieeoaaGreatDoor
open Go Go.RowKit
theorem byte_eq' (x c : UInt8) : (((x.toNat : Int)) == ((c.toNat : Int))) = decide (x = c) := by
  rw [Bool.eq_iff_iff, beq_iff_eq, decide_eq_true_iff]
  exact ⟨fun h => UInt8.toNat_inj.1 (by omega), fun h => by rw [h]⟩
section
variable {w w7 w8 wf : World} {g2 g4 : Nat} {vA rA pA A7 : Option Addr} {vc rc pc c7 : Nat} {rs : List (RulA × Rul)} {m : Mk} {cs ds : Array Value}
theorem two_keep {e : TypeId} {size n : Nat} {x : Value} {xs : List Value} (c2 : Cs w7 g2 makeT cs) (O8 : Only (fun q => q = g2) w7 w8) (d4 : Cs w8 g4 makeT ds) (O9 : Only (fun q => q = g4) w8 wf) (hh : w7.ownsRow 0 e size x n xs) (hne : e ≠ makeT) : wf.ownsRow 0 e size x n xs := by
  have k8 := own_keep hh O8 (own_ne_cs hh c2 hne)
  exact own_keep k8 O9 (own_ne_cs k8 d4 hne)
theorem two_ext (h2 : w.heap.size ≤ g2) (h4 : w.heap.size ≤ g4) (x7 : Ext w w7) (O8 : Only (fun q => q = g2) w7 w8) (O9 : Only (fun q => q = g4) w8 wf) : Ext w wf :=
  (x7.trans O8 fun b hb e => by have e : b = g2 := e; omega).trans O9 fun b hb e => by have e : b = g4 := e; omega
theorem ph_done {t : Str} (hS : MakeS w ⟨vA, vc, rA, rc, pA, pc⟩ rs m) (h2 : w.heap.size ≤ g2) (h4 : w.heap.size ≤ g4) (x7 : Ext w w7)
    (hF : w7.ownsRow 0 9 1 (.slice A7 (m.phony ++ [t]).length c7) (m.phony ++ [t]).length ((m.phony ++ [t]).flatMap strF.enc))
    (c2 : Cs w7 g2 makeT cs) (O8 : Only (fun q => q = g2) w7 w8) (d4 : Cs w8 g4 makeT ds) (O9 : Only (fun q => q = g4) w8 wf) :
    HdRes w (⟨m.vars, m.rules, m.phony ++ [t]⟩, 0) (.returned (.tuple #[.agg #[.slice vA m.vars.length vc, .slice rA m.rules.length rc, .slice A7 (m.phony.length + 1 : Nat) c7], .int .i64 0])) wf := by
  have E9 := two_ext h2 h4 x7 O8 O9
  refine ⟨⟨vA, vc, rA, rc, A7, c7⟩, rs, ?_, fun u hu => ⟨((hS.ext E9) u hu).fv, ((hS.ext E9) u hu).fr, SlR.of_own (T := strF) (by decide) (own_box (two_keep c2 O8 d4 O9 hF (by decide)) (by decide) hu), ((hS.ext E9) u hu).rr, hS.here.rm⟩, E9⟩
  show _ = Ending.returned (.tuple #[.agg #[_, _, .slice A7 (m.phony ++ [t]).length c7], _])
  rw [List.length_append]
  rfl
theorem va_done {t : File} (hS : MakeS w ⟨vA, vc, rA, rc, pA, pc⟩ rs m) (h2 : w.heap.size ≤ g2) (h4 : w.heap.size ≤ g4) (x7 : Ext w w7)
    (hF : w7.ownsRow 0 varT 2 (.slice A7 (m.vars ++ [t]).length c7) (m.vars ++ [t]).length ((m.vars ++ [t]).flatMap fileF.enc))
    (c2 : Cs w7 g2 makeT cs) (O8 : Only (fun q => q = g2) w7 w8) (d4 : Cs w8 g4 makeT ds) (O9 : Only (fun q => q = g4) w8 wf) :
    HdRes w (⟨m.vars ++ [t], m.rules, m.phony⟩, 0) (.returned (.tuple #[.agg #[.slice A7 (m.vars.length + 1 : Nat) c7, .slice rA m.rules.length rc, .slice pA m.phony.length pc], .int .i64 0])) wf := by
  have E9 := two_ext h2 h4 x7 O8 O9
  refine ⟨⟨A7, c7, rA, rc, pA, pc⟩, rs, ?_, fun u hu => ⟨SlR.of_own (T := fileF) (by decide) (own_box (two_keep c2 O8 d4 O9 hF (by decide)) (by decide) hu), ((hS.ext E9) u hu).fr, ((hS.ext E9) u hu).fp, ((hS.ext E9) u hu).rr, hS.here.rm⟩, E9⟩
  show _ = Ending.returned (.tuple #[.agg #[.slice A7 (m.vars ++ [t]).length c7, _, _], _])
  rw [List.length_append]
  rfl
theorem cm_done {wD : World} {gR : Nat} {A8 : Option Addr} {c8 : Nat} {t : Str} {a : RulA} {r : Rul} {rest : List Value} (hS : MakeS w ⟨vA, vc, rA, rc, pA, pc⟩ (rs ++ [(a, r)]) m) (h2 : w.heap.size ≤ g2) (h4 : w.heap.size ≤ g4) (hgR : w.heap.size ≤ gR) (xD : Ext w wD)
    (hR : Cs wD gR ruleT ((rs ++ [(a, r)]).flatMap rulF.enc ++ rest).toArray)
    (h8 : wD.ownsRow 0 9 1 (.slice A8 (r.cmds ++ [t]).length c8) (r.cmds ++ [t]).length ((r.cmds ++ [t]).flatMap strF.enc))
    (hE : w7 = wD.setCell ⟨gR, rs.length * 3 + 2, none⟩ (.slice A8 (r.cmds.length + 1 : Nat) c8)) (hnc : rs.length + 1 ≤ c7) (hlc : ((rs ++ [(a, r)]).flatMap rulF.enc ++ rest).length = c7 * 3) (hmx : c7 ≤ maxLen)
    (c2 : Cs w7 g2 makeT cs) (O8 : Only (fun q => q = g2) w7 w8) (d4 : Cs w8 g4 makeT ds) (O9 : Only (fun q => q = g4) w8 wf) :
    HdRes w (⟨m.vars, rs.map (·.2) ++ [⟨r.targets, r.needs, r.cmds ++ [t]⟩], m.phony⟩, 0) (.returned (.tuple #[.agg #[.slice vA m.vars.length vc, .slice (some ⟨gR, 0, none⟩) (rs.length + 1 : Nat) c7, .slice pA m.phony.length pc], .int .i64 0])) wf := by
  have OE : Only (fun q => q = gR) wD w7 := by rw [hE]; exact (Only.refl _ _).at_ _ _
  have x7 : Ext w w7 := xD.trans OE fun b hb e => by have e : b = gR := e; omega
  have E9 := two_ext h2 h4 x7 O8 O9
  have k8 := own_keep h8 OE (own_ne_cs h8 hR (by decide))
  have hC := hR.set_ (rs.length * 3 + 2) (.slice A8 (r.cmds.length + 1 : Nat) c8)
  rw [← hE] at hC
  have e9 : (((rs ++ [(a, r)]).flatMap rulF.enc ++ rest).toArray.setIfInBounds (rs.length * 3 + 2) (.slice A8 (r.cmds.length + 1 : Nat) c8)) = ((rs ++ [(({ a with cA := A8, cc := c8 } : RulA), (⟨r.targets, r.needs, r.cmds ++ [t]⟩ : Rul))]).flatMap rulF.enc ++ rest).toArray := by
    apply Array.ext'
    rw [Array.toList_setIfInBounds]
    have h0 : (rs.flatMap rulF.enc).length = rs.length * 3 := length_flatMap_enc rulF rs
    rw [List.flatMap_append, List.flatMap_append, List.append_assoc, List.append_assoc]
    show (rs.flatMap rulF.enc ++ ([_, _, _] ++ rest)).set (rs.length * 3 + 2) _ = rs.flatMap rulF.enc ++ ([_, _, _] ++ rest)
    rw [List.set_append_right _ _ (by omega), h0, show rs.length * 3 + 2 - rs.length * 3 = 2 by omega]
    simp
  rw [e9] at hC
  have hrow : w7.ownsRow 0 ruleT 3 (.slice (some ⟨gR, 0, none⟩) (rs.length + 1 : Nat) c7) (rs.length + 1) ((rs ++ [(({ a with cA := A8, cc := c8 } : RulA), (⟨r.targets, r.needs, r.cmds ++ [t]⟩ : Rul))]).flatMap rulF.enc) := by
    refine own_of_block hC (Nat.zero_le _) ?_ ?_ hnc hmx
    · rw [length_flatMap_enc]; simp [rulF]
    · rw [List.length_append] at hlc ⊢
      rw [← hlc, length_flatMap_enc, length_flatMap_enc]
      simp
  refine ⟨⟨vA, vc, some ⟨gR, 0, none⟩, c7, pA, pc⟩, rs ++ [(({ a with cA := A8, cc := c8 } : RulA), (⟨r.targets, r.needs, r.cmds ++ [t]⟩ : Rul))], ?_, fun u hu => ⟨((hS.ext E9) u hu).fv, ?_, ((hS.ext E9) u hu).fp, fun x hx => ?_, ?_⟩, E9⟩
  · show _ = Ending.returned (.tuple #[.agg #[_, .slice _ (rs.map (·.2) ++ [(⟨r.targets, r.needs, r.cmds ++ [t]⟩ : Rul)]).length c7, _], _])
    rw [List.length_append, List.length_map]
    rfl
  · have := SlR.of_own (T := rulF) (by decide) (own_box (two_keep c2 O8 d4 O9 hrow (by decide)) (by decide) hu)
    show SlR rulF u _ (rs.map (·.2) ++ [(⟨r.targets, r.needs, r.cmds ++ [t]⟩ : Rul)]).length _
    rw [List.length_append, List.length_map]
    exact this
  · rcases List.mem_append.1 hx with hx | hx
    · exact ((hS.ext E9) u hu).rr x (List.mem_append_left _ hx)
    · obtain rfl := List.mem_singleton.1 hx
      have hlast := ((hS.ext E9) u hu).rr (a, r) (by simp)
      exact ⟨hlast.1, hlast.2.1, SlR.of_own (T := strF) (by decide) (own_box (two_keep c2 O8 d4 O9 k8 (by decide)) (by decide) hu)⟩
  · rw [List.map_append]
    rfl
end
theorem va_enc1 (xs : List File) : ∀ u ∈ xs.flatMap fileF.enc, u.oneCell' = true := by
  intro u hu
  obtain ⟨x, _, hx⟩ := List.mem_flatMap.1 hu
  simp only [fileF, List.mem_cons, List.not_mem_nil, or_false] at hx
  rcases hx with rfl | rfl <;> rfl
set_option maxRecDepth 100000 in
set_option maxHeartbeats 8000000 in
theorem Ln_nil {w : World} {v : MkV} {rs : List (RulA × Rul)} {m : Mk} {k : Nat} (hS : MakeS w v rs m) (hf : m.Fit k) (hk : k ≤ 10000) (s : Str) (hs : s.length ≤ 600) (h0 : s.length = 0) :
    Calls Tryz.prog 34 #[mkV v m, S s] w (HdRes w (lineF m s)) := by
  obtain ⟨vA, vc, rA, rc, pA, pc⟩ := v
  obtain ⟨g2, hg2⟩ : ∃ g, g = w.heap.size := ⟨_, rfl⟩
  obtain ⟨w1, hw1⟩ : ∃ u, u = w.alloc (.cells #[.slice vA m.vars.length vc, .slice rA m.rules.length rc, .slice pA m.phony.length pc] makeT) := ⟨_, rfl⟩
  have x1 : Ext w w1 := by rw [hw1]; exact (Only.refl No w).alloc _
  have hc1 : Cs w1 g2 makeT #[.slice vA m.vars.length vc, .slice rA m.rules.length rc, .slice pA m.phony.length pc] := by rw [hw1, hg2]; exact Cs.new _ _ _
  obtain ⟨g4, hg4⟩ : ∃ g, g = w1.heap.size := ⟨_, rfl⟩
  obtain ⟨w2, hw2⟩ : ∃ u, u = w1.alloc (.cells #[.slice none 0 0, .slice none 0 0, .slice none 0 0] makeT) := ⟨_, rfl⟩
  have x2 : Ext w1 w2 := by rw [hw2]; exact (Only.refl No w1).alloc _
  have C4 : Hid (Cs w2 g4 makeT #[.slice none 0 0, .slice none 0 0, .slice none 0 0]) := by rw [hw2, hg4]; exact Cs.new _ _ _
  have CB := Lib.hid (hc1.keep x2 id)
  have hz : g4 = g2 + 1 := by rw [hg4, hg2, hw1]; simp
  have hz2 : w.heap.size ≤ g2 := by omega
  have hz4 : w.heap.size ≤ g4 := by omega
  have hz24 : g2 ≠ g4 := by omega
  have XB := Lib.hid (x1.then_ext x2)
  have HX : Hid (∀ u v', Ext w2 u → Only (fun b => b = g4) u v' → Ext w v') := fun u v' h1 h2 => (XB.out.then_ext h1).trans h2 fun b hb e => by have e : b = g4 := e; omega
  have HSt := Lib.hid hS
  have h := hS.here
  have H := Lib.hid h
  clear hS
  clear x1 x2 hc1
  have hr10 : m.rules.length ≤ 10 := hf.r
  have hv6 : m.vars.length ≤ 6 := hf.v
  have hp10 : m.phony.length ≤ 10000 := by have := hf.p; omega
  have HFt := Lib.hid hf
  have c0 : w2.cell? ⟨g2, 0, none⟩ = some (.slice vA m.vars.length vc) := CB.out.cell 0
  have c1 : w2.cell? ⟨g2, 1, none⟩ = some (.slice rA m.rules.length rc) := CB.out.cell 1
  have c2 : w2.cell? ⟨g2, 2, none⟩ = some (.slice pA m.phony.length pc) := CB.out.cell 2
  have X0 : Hid (Ext w2 w2) := Only.refl _ _
  clear h hf
  have hnil : s = [] := List.eq_nil_of_length_eq_zero h0
  have HF0 : Hid (lineF m s = (m, 0)) := by rw [Hid, hnil]; rfl
  have hne : (s == ([] : Str)) = true := by rw [hnil]; rfl
  clear hnil h0
  show Calls _ _ #[.agg #[.slice vA m.vars.length vc, .slice rA m.rules.length rc, .slice pA m.phony.length pc], S s] _ _
  go_enter Tryz.func34, Tryz.ntmps34
  go_upto_region 1 with fail
  rw [← hw1, ← hg2, ← hw2, ← hz]
  clear hw1 hg2 hw2 hg4 hz
  have D2 := Lib.hid (CB.out.keep X0.out id)
  have D4 := Lib.hid (C4.out.keep X0.out id)
  have q0 : w2.cell? ⟨g2, 0, none⟩ = some (.slice vA m.vars.length vc) := D2.out.cell 0
  have q1 : w2.cell? ⟨g2, 1, none⟩ = some (.slice rA m.rules.length rc) := D2.out.cell 1
  have q2 : w2.cell? ⟨g2, 2, none⟩ = some (.slice pA m.phony.length pc) := D2.out.cell 2
  have e0 : w2.cell? ⟨g4, 0, none⟩ = some (.slice none 0 0) := D4.out.cell 0
  have e1 : w2.cell? ⟨g4, 1, none⟩ = some (.slice none 0 0) := D4.out.cell 1
  have e2 : w2.cell? ⟨g4, 2, none⟩ = some (.slice none 0 0) := D4.out.cell 2
  have z0 := D4.out.frozen 0
  have z1 := D4.out.frozen 1
  have z2 := D4.out.frozen 2
  have HO : Hid (∀ a b c, Only (fun b => b = g4) w2 (((w2.setCell ⟨g4, 0, none⟩ a).setCell ⟨g4, 1, none⟩ b).setCell ⟨g4, 2, none⟩ c)) := fun a b c => (((Only.refl _ _).at_ 0 a).at_ 1 b).at_ 2 c
  have HS : Hid (∀ a b c, Cs (((w2.setCell ⟨g4, 0, none⟩ a).setCell ⟨g4, 1, none⟩ b).setCell ⟨g4, 2, none⟩ c) g4 makeT #[a, b, c]) := fun a b c => ((D4.out.set_ 0 a).set_ 1 b).set_ 2 c
  go_wp2_with fail
  have hl := load_mk (HS.out (.slice vA m.vars.length vc) (.slice rA m.rules.length rc) (.slice pA m.phony.length pc))
  refine bodyPost_cell (p := 4) (u := 5) (ty := makeT) (ad := ⟨g4, 0, none⟩) rfl rfl rfl hl ?_
  rw [HF0.out]
  exact ⟨⟨vA, vc, rA, rc, pA, pc⟩, rs, rfl, HSt.out.ext (HX.out _ _ X0.out (HO.out _ _ _)), HX.out _ _ X0.out (HO.out _ _ _)⟩
set_option maxRecDepth 100000 in
set_option maxHeartbeats 8000000 in
theorem Ln_note {w : World} {v : MkV} {rs : List (RulA × Rul)} {m : Mk} {k : Nat} (hS : MakeS w v rs m) (hf : m.Fit k) (hk : k ≤ 10000) (s : Str) (hs : s.length ≤ 600) (hs0 : 0 < s.length) (k35 : s[0] = 35) :
    Calls Tryz.prog 34 #[mkV v m, S s] w (HdRes w (lineF m s)) := by
  obtain ⟨vA, vc, rA, rc, pA, pc⟩ := v
  obtain ⟨g2, hg2⟩ : ∃ g, g = w.heap.size := ⟨_, rfl⟩
  obtain ⟨w1, hw1⟩ : ∃ u, u = w.alloc (.cells #[.slice vA m.vars.length vc, .slice rA m.rules.length rc, .slice pA m.phony.length pc] makeT) := ⟨_, rfl⟩
  have x1 : Ext w w1 := by rw [hw1]; exact (Only.refl No w).alloc _
  have hc1 : Cs w1 g2 makeT #[.slice vA m.vars.length vc, .slice rA m.rules.length rc, .slice pA m.phony.length pc] := by rw [hw1, hg2]; exact Cs.new _ _ _
  obtain ⟨g4, hg4⟩ : ∃ g, g = w1.heap.size := ⟨_, rfl⟩
  obtain ⟨w2, hw2⟩ : ∃ u, u = w1.alloc (.cells #[.slice none 0 0, .slice none 0 0, .slice none 0 0] makeT) := ⟨_, rfl⟩
  have x2 : Ext w1 w2 := by rw [hw2]; exact (Only.refl No w1).alloc _
  have C4 : Hid (Cs w2 g4 makeT #[.slice none 0 0, .slice none 0 0, .slice none 0 0]) := by rw [hw2, hg4]; exact Cs.new _ _ _
  have CB := Lib.hid (hc1.keep x2 id)
  have hz : g4 = g2 + 1 := by rw [hg4, hg2, hw1]; simp
  have hz2 : w.heap.size ≤ g2 := by omega
  have hz4 : w.heap.size ≤ g4 := by omega
  have hz24 : g2 ≠ g4 := by omega
  have XB := Lib.hid (x1.then_ext x2)
  have HX : Hid (∀ u v', Ext w2 u → Only (fun b => b = g4) u v' → Ext w v') := fun u v' h1 h2 => (XB.out.then_ext h1).trans h2 fun b hb e => by have e : b = g4 := e; omega
  have HSt := Lib.hid hS
  have h := hS.here
  have H := Lib.hid h
  clear hS
  clear x1 x2 hc1
  have hr10 : m.rules.length ≤ 10 := hf.r
  have hv6 : m.vars.length ≤ 6 := hf.v
  have hp10 : m.phony.length ≤ 10000 := by have := hf.p; omega
  have HFt := Lib.hid hf
  have c0 : w2.cell? ⟨g2, 0, none⟩ = some (.slice vA m.vars.length vc) := CB.out.cell 0
  have c1 : w2.cell? ⟨g2, 1, none⟩ = some (.slice rA m.rules.length rc) := CB.out.cell 1
  have c2 : w2.cell? ⟨g2, 2, none⟩ = some (.slice pA m.phony.length pc) := CB.out.cell 2
  have X0 : Hid (Ext w2 w2) := Only.refl _ _
  clear h hf
  obtain ⟨x, hx0⟩ : ∃ x, s[0] = x := ⟨_, rfl⟩
  have hne : (s == ([] : Str)) = false := by
    cases s with
    | nil => simp at hs0
    | cons a l => rfl
  have HF : Hid (lineF m s = if x = 35 then (m, 0) else if x = 9 then cmdF m (s.drop 1) else if Lib.hasPrefix s phonyT = true then phoF m (s.drop 6) else if (Lib.cut s eqT).2.2 = true then varF m (Lib.cut s eqT).1 (Lib.cut s eqT).2.1 else headF m s) := by
    cases s with
    | nil => simp at hs0
    | cons a l =>
      have : a = x := hx0
      subst this
      exact lineF_cons m a l
  have h35 : x = 35 := by rw [← hx0]; exact k35
  have q1' : (((x.toNat : Int)) == 35) = true := (byte_eq' x 35).trans (decide_eq_true h35)
  have HF2 := Lib.hid (HF.out.trans (if_pos h35))
  clear h35
  show Calls _ _ #[.agg #[.slice vA m.vars.length vc, .slice rA m.rules.length rc, .slice pA m.phony.length pc], S s] _ _
  go_enter Tryz.func34, Tryz.ntmps34
  go_upto_region 1 with fail
  rw [← hw1, ← hg2, ← hw2, ← hz]
  clear hw1 hg2 hw2 hg4 hz
  have D2 := Lib.hid (CB.out.keep X0.out id)
  have D4 := Lib.hid (C4.out.keep X0.out id)
  have q0 : w2.cell? ⟨g2, 0, none⟩ = some (.slice vA m.vars.length vc) := D2.out.cell 0
  have q1 : w2.cell? ⟨g2, 1, none⟩ = some (.slice rA m.rules.length rc) := D2.out.cell 1
  have q2 : w2.cell? ⟨g2, 2, none⟩ = some (.slice pA m.phony.length pc) := D2.out.cell 2
  have e0 : w2.cell? ⟨g4, 0, none⟩ = some (.slice none 0 0) := D4.out.cell 0
  have e1 : w2.cell? ⟨g4, 1, none⟩ = some (.slice none 0 0) := D4.out.cell 1
  have e2 : w2.cell? ⟨g4, 2, none⟩ = some (.slice none 0 0) := D4.out.cell 2
  have z0 := D4.out.frozen 0
  have z1 := D4.out.frozen 1
  have z2 := D4.out.frozen 2
  have HO : Hid (∀ a b c, Only (fun b => b = g4) w2 (((w2.setCell ⟨g4, 0, none⟩ a).setCell ⟨g4, 1, none⟩ b).setCell ⟨g4, 2, none⟩ c)) := fun a b c => (((Only.refl _ _).at_ 0 a).at_ 1 b).at_ 2 c
  have HS : Hid (∀ a b c, Cs (((w2.setCell ⟨g4, 0, none⟩ a).setCell ⟨g4, 1, none⟩ b).setCell ⟨g4, 2, none⟩ c) g4 makeT #[a, b, c]) := fun a b c => ((D4.out.set_ 0 a).set_ 1 b).set_ 2 c
  go_wp2_with fail
  have hl := load_mk (HS.out (.slice vA m.vars.length vc) (.slice rA m.rules.length rc) (.slice pA m.phony.length pc))
  refine bodyPost_cell (p := 4) (u := 5) (ty := makeT) (ad := ⟨g4, 0, none⟩) rfl rfl rfl hl ?_
  rw [HF2.out]
  exact ⟨⟨vA, vc, rA, rc, pA, pc⟩, rs, rfl, HSt.out.ext (HX.out _ _ X0.out (HO.out _ _ _)), HX.out _ _ X0.out (HO.out _ _ _)⟩
set_option maxRecDepth 100000 in
set_option maxHeartbeats 8000000 in
theorem Ln_cmd0 {w : World} {v : MkV}  {m : Mk} {k : Nat} (hS : MakeS w v [] m) (hf : m.Fit k) (hk : k ≤ 10000) (s : Str) (hs : s.length ≤ 600) (hs0 : 0 < s.length) (k9 : s[0] = 9) :
    Calls Tryz.prog 34 #[mkV v m, S s] w (HdRes w (lineF m s)) := by
  obtain ⟨vA, vc, rA, rc, pA, pc⟩ := v
  obtain ⟨g2, hg2⟩ : ∃ g, g = w.heap.size := ⟨_, rfl⟩
  obtain ⟨w1, hw1⟩ : ∃ u, u = w.alloc (.cells #[.slice vA m.vars.length vc, .slice rA m.rules.length rc, .slice pA m.phony.length pc] makeT) := ⟨_, rfl⟩
  have x1 : Ext w w1 := by rw [hw1]; exact (Only.refl No w).alloc _
  have hc1 : Cs w1 g2 makeT #[.slice vA m.vars.length vc, .slice rA m.rules.length rc, .slice pA m.phony.length pc] := by rw [hw1, hg2]; exact Cs.new _ _ _
  obtain ⟨g4, hg4⟩ : ∃ g, g = w1.heap.size := ⟨_, rfl⟩
  obtain ⟨w2, hw2⟩ : ∃ u, u = w1.alloc (.cells #[.slice none 0 0, .slice none 0 0, .slice none 0 0] makeT) := ⟨_, rfl⟩
  have x2 : Ext w1 w2 := by rw [hw2]; exact (Only.refl No w1).alloc _
  have C4 : Hid (Cs w2 g4 makeT #[.slice none 0 0, .slice none 0 0, .slice none 0 0]) := by rw [hw2, hg4]; exact Cs.new _ _ _
  have CB := Lib.hid (hc1.keep x2 id)
  have hz : g4 = g2 + 1 := by rw [hg4, hg2, hw1]; simp
  have hz2 : w.heap.size ≤ g2 := by omega
  have hz4 : w.heap.size ≤ g4 := by omega
  have hz24 : g2 ≠ g4 := by omega
  have XB := Lib.hid (x1.then_ext x2)
  have HX : Hid (∀ u v', Ext w2 u → Only (fun b => b = g4) u v' → Ext w v') := fun u v' h1 h2 => (XB.out.then_ext h1).trans h2 fun b hb e => by have e : b = g4 := e; omega
  have HSt := Lib.hid hS
  have h := hS.here
  have H := Lib.hid h
  clear hS
  clear x1 x2 hc1
  have hr10 : m.rules.length ≤ 10 := hf.r
  have hv6 : m.vars.length ≤ 6 := hf.v
  have hp10 : m.phony.length ≤ 10000 := by have := hf.p; omega
  have HFt := Lib.hid hf
  have c0 : w2.cell? ⟨g2, 0, none⟩ = some (.slice vA m.vars.length vc) := CB.out.cell 0
  have c1 : w2.cell? ⟨g2, 1, none⟩ = some (.slice rA m.rules.length rc) := CB.out.cell 1
  have c2 : w2.cell? ⟨g2, 2, none⟩ = some (.slice pA m.phony.length pc) := CB.out.cell 2
  have X0 : Hid (Ext w2 w2) := Only.refl _ _
  clear h hf
  obtain ⟨x, hx0⟩ : ∃ x, s[0] = x := ⟨_, rfl⟩
  have hne : (s == ([] : Str)) = false := by
    cases s with
    | nil => simp at hs0
    | cons a l => rfl
  have HF : Hid (lineF m s = if x = 35 then (m, 0) else if x = 9 then cmdF m (s.drop 1) else if Lib.hasPrefix s phonyT = true then phoF m (s.drop 6) else if (Lib.cut s eqT).2.2 = true then varF m (Lib.cut s eqT).1 (Lib.cut s eqT).2.1 else headF m s) := by
    cases s with
    | nil => simp at hs0
    | cons a l =>
      have : a = x := hx0
      subst this
      exact lineF_cons m a l
  have h9 : x = 9 := by rw [← hx0]; exact k9
  have h35 : ¬ x = 35 := by rw [h9]; decide
  have q1' : (((x.toNat : Int)) == 35) = false := (byte_eq' x 35).trans (decide_eq_false h35)
  have HF2 := Lib.hid (HF.out.trans (if_neg h35))
  clear HF h35
  have q2' : (((x.toNat : Int)) == 9) = true := (byte_eq' x 9).trans (decide_eq_true h9)
  have HF3 := Lib.hid (HF2.out.trans (if_pos h9))
  clear h9 HF2
  have hm0 : m.rules = [] := H.out.rm.symm
  have HF4 : Hid (lineF m s = (m, 4)) := by
    rw [Hid, HF3.out, cmdF, hm0]
    rfl
  have hl0 : m.rules.length = 0 := by rw [hm0]; rfl
  have gl0 : (((m.rules.length : Int)) == 0) = true := by rw [hl0]; rfl
  have gl1 : decide (((m.rules.length : Int)) = 0) = true := by rw [hl0]; rfl
  clear hm0 hl0 hr10 HF3
  show Calls _ _ #[.agg #[.slice vA m.vars.length vc, .slice rA m.rules.length rc, .slice pA m.phony.length pc], S s] _ _
  go_enter Tryz.func34, Tryz.ntmps34
  go_upto_region 1 with fail
  rw [← hw1, ← hg2, ← hw2, ← hz]
  clear hw1 hg2 hw2 hg4 hz
  have D2 := Lib.hid (CB.out.keep X0.out id)
  have D4 := Lib.hid (C4.out.keep X0.out id)
  have q0 : w2.cell? ⟨g2, 0, none⟩ = some (.slice vA m.vars.length vc) := D2.out.cell 0
  have q1 : w2.cell? ⟨g2, 1, none⟩ = some (.slice rA m.rules.length rc) := D2.out.cell 1
  have q2 : w2.cell? ⟨g2, 2, none⟩ = some (.slice pA m.phony.length pc) := D2.out.cell 2
  have e0 : w2.cell? ⟨g4, 0, none⟩ = some (.slice none 0 0) := D4.out.cell 0
  have e1 : w2.cell? ⟨g4, 1, none⟩ = some (.slice none 0 0) := D4.out.cell 1
  have e2 : w2.cell? ⟨g4, 2, none⟩ = some (.slice none 0 0) := D4.out.cell 2
  have z0 := D4.out.frozen 0
  have z1 := D4.out.frozen 1
  have z2 := D4.out.frozen 2
  have HO : Hid (∀ a b c, Only (fun b => b = g4) w2 (((w2.setCell ⟨g4, 0, none⟩ a).setCell ⟨g4, 1, none⟩ b).setCell ⟨g4, 2, none⟩ c)) := fun a b c => (((Only.refl _ _).at_ 0 a).at_ 1 b).at_ 2 c
  have HS : Hid (∀ a b c, Cs (((w2.setCell ⟨g4, 0, none⟩ a).setCell ⟨g4, 1, none⟩ b).setCell ⟨g4, 2, none⟩ c) g4 makeT #[a, b, c]) := fun a b c => ((D4.out.set_ 0 a).set_ 1 b).set_ 2 c
  go_wp2_with fail
  have hl := load_mk (HS.out (.slice vA m.vars.length vc) (.slice rA m.rules.length rc) (.slice pA m.phony.length pc))
  refine bodyPost_cell (p := 4) (u := 5) (ty := makeT) (ad := ⟨g4, 0, none⟩) rfl rfl rfl hl ?_
  rw [HF4.out]
  exact ⟨⟨vA, vc, rA, rc, pA, pc⟩, [], rfl, HSt.out.ext (HX.out _ _ X0.out (HO.out _ _ _)), HX.out _ _ X0.out (HO.out _ _ _)⟩
set_option maxRecDepth 100000 in
set_option maxHeartbeats 8000000 in
theorem Ln_cmd {w : World} {v : MkV} {ini : List (RulA × Rul)} {a : RulA} {r : Rul} {m : Mk} {k : Nat} (hS : MakeS w v (ini ++ [(a, r)]) m) (hf : m.Fit k) (hk : k ≤ 10000) (s : Str) (hs : s.length ≤ 600) (hs0 : 0 < s.length) (k9 : s[0] = 9) :
    Calls Tryz.prog 34 #[mkV v m, S s] w (HdRes w (lineF m s)) := by
  obtain ⟨vA, vc, rA, rc, pA, pc⟩ := v
  obtain ⟨g2, hg2⟩ : ∃ g, g = w.heap.size := ⟨_, rfl⟩
  obtain ⟨w1, hw1⟩ : ∃ u, u = w.alloc (.cells #[.slice vA m.vars.length vc, .slice rA m.rules.length rc, .slice pA m.phony.length pc] makeT) := ⟨_, rfl⟩
  have x1 : Ext w w1 := by rw [hw1]; exact (Only.refl No w).alloc _
  have hc1 : Cs w1 g2 makeT #[.slice vA m.vars.length vc, .slice rA m.rules.length rc, .slice pA m.phony.length pc] := by rw [hw1, hg2]; exact Cs.new _ _ _
  obtain ⟨g4, hg4⟩ : ∃ g, g = w1.heap.size := ⟨_, rfl⟩
  obtain ⟨w2, hw2⟩ : ∃ u, u = w1.alloc (.cells #[.slice none 0 0, .slice none 0 0, .slice none 0 0] makeT) := ⟨_, rfl⟩
  have x2 : Ext w1 w2 := by rw [hw2]; exact (Only.refl No w1).alloc _
  have C4 : Hid (Cs w2 g4 makeT #[.slice none 0 0, .slice none 0 0, .slice none 0 0]) := by rw [hw2, hg4]; exact Cs.new _ _ _
  have CB := Lib.hid (hc1.keep x2 id)
  have hz : g4 = g2 + 1 := by rw [hg4, hg2, hw1]; simp
  have hz2 : w.heap.size ≤ g2 := by omega
  have hz4 : w.heap.size ≤ g4 := by omega
  have hz24 : g2 ≠ g4 := by omega
  have XB := Lib.hid (x1.then_ext x2)
  have HX : Hid (∀ u v', Ext w2 u → Only (fun b => b = g4) u v' → Ext w v') := fun u v' h1 h2 => (XB.out.then_ext h1).trans h2 fun b hb e => by have e : b = g4 := e; omega
  have HSt := Lib.hid hS
  have h := hS.here
  have H := Lib.hid h
  clear hS
  clear x1 x2 hc1
  have hr10 : m.rules.length ≤ 10 := hf.r
  have hv6 : m.vars.length ≤ 6 := hf.v
  have hp10 : m.phony.length ≤ 10000 := by have := hf.p; omega
  have HFt := Lib.hid hf
  have c0 : w2.cell? ⟨g2, 0, none⟩ = some (.slice vA m.vars.length vc) := CB.out.cell 0
  have c1 : w2.cell? ⟨g2, 1, none⟩ = some (.slice rA m.rules.length rc) := CB.out.cell 1
  have c2 : w2.cell? ⟨g2, 2, none⟩ = some (.slice pA m.phony.length pc) := CB.out.cell 2
  have X0 : Hid (Ext w2 w2) := Only.refl _ _
  clear h hf
  obtain ⟨x, hx0⟩ : ∃ x, s[0] = x := ⟨_, rfl⟩
  have hne : (s == ([] : Str)) = false := by
    cases s with
    | nil => simp at hs0
    | cons a l => rfl
  have HF : Hid (lineF m s = if x = 35 then (m, 0) else if x = 9 then cmdF m (s.drop 1) else if Lib.hasPrefix s phonyT = true then phoF m (s.drop 6) else if (Lib.cut s eqT).2.2 = true then varF m (Lib.cut s eqT).1 (Lib.cut s eqT).2.1 else headF m s) := by
    cases s with
    | nil => simp at hs0
    | cons a l =>
      have : a = x := hx0
      subst this
      exact lineF_cons m a l
  have h9 : x = 9 := by rw [← hx0]; exact k9
  have h35 : ¬ x = 35 := by rw [h9]; decide
  have q1' : (((x.toNat : Int)) == 35) = false := (byte_eq' x 35).trans (decide_eq_false h35)
  have HF2 := Lib.hid (HF.out.trans (if_neg h35))
  clear HF h35
  have q2' : (((x.toNat : Int)) == 9) = true := (byte_eq' x 9).trans (decide_eq_true h9)
  have HF3 := Lib.hid (HF2.out.trans (if_pos h9))
  clear h9 HF2
  have hrm := H.out.rm
  rw [List.map_append] at hrm
  have HRM : Hid (m.rules = ini.map (·.2) ++ [r]) := hrm.symm
  have hml : m.rules.length = ini.length + 1 := by rw [HRM.out]; simp
  have HML := Lib.hid hml
  have HF4 : Hid (lineF m s = if (exp m.vars 6 (s.drop 1)).2 ≠ 0 then (m, (exp m.vars 6 (s.drop 1)).2) else if r.cmds.length = 3 ∨ 28 < (exp m.vars 6 (s.drop 1)).1.length then (m, 2) else (⟨m.vars, ini.map (·.2) ++ [⟨r.targets, r.needs, r.cmds ++ [(exp m.vars 6 (s.drop 1)).1]⟩], m.phony⟩, 0)) := by
    rw [Hid, HF3.out, cmdF, HRM.out, List.getLast?_concat, List.dropLast_concat]
  have HT : Hid (∀ v, Ext w2 v → Calls Tryz.prog 56 #[.slice vA m.vars.length vc, S (s.drop 1), .int .i64 0] v fun e w' => e = .returned (.tuple #[S (exp m.vars 6 (s.drop 1)).1, .int .i64 (exp m.vars 6 (s.drop 1)).2]) ∧ Ext v w') := fun v hv =>
    RExp_c H.out.fv (by omega) (fun f hm => by have := (HFt.out.vt f hm).2; omega) 6 (Nat.le_refl _) (s.drop 1) (by rw [List.length_drop]; omega) v (XB.out.then_ext hv)
  have HB := Lib.hid (exp_bound m.vars 6 (s.drop 1))
  have HNn := Lib.hid (exp_nonneg m.vars 6 (s.drop 1))
  have hr3 : r.cmds.length ≤ 3 := (HFt.out.rt r (by rw [HRM.out]; simp)).2.2.2
  rw [List.drop_one] at HF4 HB HNn
  have HT2 : Hid (∀ v, Ext w2 v → Calls Tryz.prog 56 #[.slice vA m.vars.length vc, S s.tail, .int .i64 0] v fun e w' => e = .returned (.tuple #[S (exp m.vars 6 s.tail).1, .int .i64 (exp m.vars 6 s.tail).2]) ∧ Ext v w') := by
    have := HT.out
    rw [List.drop_one] at this
    exact this
  clear HT
  generalize exp m.vars 6 s.tail = ex at HF4 HT2 HB HNn
  obtain ⟨t, e⟩ := ex
  have HT := Lib.hid HT2.out
  clear HT2
  dsimp only at HF4 HT HB HNn
  have htl := HB.out
  have hnn := HNn.out
  have hi10 : ini.length ≤ 9 := by omega
  have hlk : ini.length < m.rules.length := by omega
  obtain ⟨b, o, y, hrA, hy, hb, k0, k1, k2⟩ := rules_get H.out.fr hlk
  have hyr : y = (a, r) := by
    rw [List.getElem?_append_right (Nat.le_refl _), Nat.sub_self] at hy
    exact (Option.some.inj hy).symm
  subst hyr
  dsimp only at hrA
  subst hrA
  dsimp only at k0 k1 k2
  have gl0 : (((m.rules.length : Int)) == 0) = false := by rw [beq_eq_false_iff_ne]; omega
  have gl1 : decide (((m.rules.length : Int)) = 0) = false := by rw [decide_eq_false_iff_not]; omega
  rw [hml] at c1
  have gm0 : ((((ini.length : Int)) + 1) == 0) = false := by rw [beq_eq_false_iff_ne]; omega
  have D0 : ∀ ξ : X w2 No, ξ.v.cell? ⟨g2, 0, none⟩ = some (.slice vA m.vars.length vc) := CB.out.x id 0
  have hs1 : 1 ≤ s.length := hs0
  clear hml hrm hy hr10 HF3 hlk k0 k1
  show Calls _ _ #[.agg #[.slice vA m.vars.length vc, .slice (some ⟨b, o, none⟩) m.rules.length rc, .slice pA m.phony.length pc], S s] _ _
  go_enter Tryz.func34, Tryz.ntmps34
  go_upto_region 1 with fail
  rw [← hw1, ← hg2, ← hw2, ← hz]
  clear hw1 hg2 hw2 hg4 hz
  go_upto_region 7 with fail
  refine Mix.wp_draw [4] 100 (Cl w2 No) (by kernel_rfl) (by kernel_rfl) (Cl.drew_ (X.here w2 No)) ?_
  (repeat' (refine Mix.lex_quiet0 rfl rfl rfl ?_; intro K hK; go_big_quiet_op; go_big_quiet_on))
  ((first | refine Mix.lex_goes0 rfl rfl ?_ | refine Mix.lex_goesG rfl rfl rfl (by with_reducible rfl) rfl ?_); intro K hK; go_simp)
  refine (HT.out _ (Only.refl No _).drew).mono ?_
  rintro e' u1 ⟨rfl, hu⟩
  have X1 : Hid (Ext w2 u1) := (Only.refl No w2).drew.then_ext hu
  refine ⟨_, rfl, hK _ _ (fun _ => Cl.of X1.out) ?_⟩
  clear hK K hu HT D0 c0 c1 c2
  simp only [Act.put, List.setIfInBounds_toArray, List.set_cons_succ, List.set_cons_zero]
  (repeat' (refine Mix.lex_quiet0 rfl rfl rfl ?_; intro K hK; go_big_quiet_op; go_big_quiet_on))
  refine Mix.lex_nil ?_
  by_cases he : e = 0
  · subst he
    have HF5 : Hid (lineF m s = if r.cmds.length = 3 ∨ 28 < t.length then (m, 2) else (⟨m.vars, ini.map (·.2) ++ [⟨r.targets, r.needs, r.cmds ++ [t]⟩], m.phony⟩, 0)) := HF4.out.trans (if_neg (fun h => h rfl))
    clear HF4
    have kk2 : u1.cell? ⟨b, o + ini.length * 3 + 2, none⟩ = some (.slice a.cA r.cmds.length a.cc) := k2 _ (XB.out.then_ext X1.out)
    have B5 := Lib.hid (CB.out.keep X1.out id)
    have cc1 : u1.cell? ⟨g2, 1, none⟩ = some (.slice (some ⟨b, o, none⟩) (ini.length + 1 : Nat) rc) := by rw [← HML.out]; exact B5.out.cell 1
    by_cases h3 : r.cmds.length = 3
    · have g3 : decide ((r.cmds.length : Int) = 3) = true := by rw [decide_eq_true_iff]; omega
      have g3' : (((r.cmds.length : Int)) == 3) = true := by rw [beq_iff_eq]; omega
      have HF6 := Lib.hid (HF5.out.trans (if_pos (.inl h3)))
      clear h3
      go_upto_region 11 with fail
      clear cc1
      have D2 := Lib.hid (CB.out.keep X1.out id)
      have D4 := Lib.hid (C4.out.keep X1.out id)
      have q0 : u1.cell? ⟨g2, 0, none⟩ = some (.slice vA m.vars.length vc) := D2.out.cell 0
      have q1 : u1.cell? ⟨g2, 1, none⟩ = some (.slice (some ⟨b, o, none⟩) m.rules.length rc) := D2.out.cell 1
      have q2 : u1.cell? ⟨g2, 2, none⟩ = some (.slice pA m.phony.length pc) := D2.out.cell 2
      have e0 : u1.cell? ⟨g4, 0, none⟩ = some (.slice none 0 0) := D4.out.cell 0
      have e1 : u1.cell? ⟨g4, 1, none⟩ = some (.slice none 0 0) := D4.out.cell 1
      have e2 : u1.cell? ⟨g4, 2, none⟩ = some (.slice none 0 0) := D4.out.cell 2
      have z0 := D4.out.frozen 0
      have z1 := D4.out.frozen 1
      have z2 := D4.out.frozen 2
      have HO : Hid (∀ a b c, Only (fun b => b = g4) u1 (((u1.setCell ⟨g4, 0, none⟩ a).setCell ⟨g4, 1, none⟩ b).setCell ⟨g4, 2, none⟩ c)) := fun a b c => (((Only.refl _ _).at_ 0 a).at_ 1 b).at_ 2 c
      have HS : Hid (∀ a b c, Cs (((u1.setCell ⟨g4, 0, none⟩ a).setCell ⟨g4, 1, none⟩ b).setCell ⟨g4, 2, none⟩ c) g4 makeT #[a, b, c]) := fun a b c => ((D4.out.set_ 0 a).set_ 1 b).set_ 2 c
      go_wp2_with fail
      have hl := load_mk (HS.out (.slice vA m.vars.length vc) (.slice (some ⟨b, o, none⟩) m.rules.length rc) (.slice pA m.phony.length pc))
      refine bodyPost_cell (p := 4) (u := 5) (ty := makeT) (ad := ⟨g4, 0, none⟩) rfl rfl rfl hl ?_
      rw [HF6.out]
      exact ⟨⟨vA, vc, (some ⟨b, o, none⟩), rc, pA, pc⟩, ini ++ [(a, r)], rfl, HSt.out.ext (HX.out _ _ X1.out (HO.out _ _ _)), HX.out _ _ X1.out (HO.out _ _ _)⟩
    have g3 : decide ((r.cmds.length : Int) = 3) = false := by rw [decide_eq_false_iff_not]; omega
    have g3' : (((r.cmds.length : Int)) == 3) = false := by rw [beq_eq_false_iff_ne]; omega
    by_cases h28 : 28 < t.length
    · have k28 : decide ((28 : Int) < (t.length : Int)) = true := by rw [decide_eq_true_iff]; omega
      have HF6 := Lib.hid (HF5.out.trans (if_pos (.inr h28)))
      go_upto_region 11 with fail
      clear cc1
      have D2 := Lib.hid (CB.out.keep X1.out id)
      have D4 := Lib.hid (C4.out.keep X1.out id)
      have q0 : u1.cell? ⟨g2, 0, none⟩ = some (.slice vA m.vars.length vc) := D2.out.cell 0
      have q1 : u1.cell? ⟨g2, 1, none⟩ = some (.slice (some ⟨b, o, none⟩) m.rules.length rc) := D2.out.cell 1
      have q2 : u1.cell? ⟨g2, 2, none⟩ = some (.slice pA m.phony.length pc) := D2.out.cell 2
      have e0 : u1.cell? ⟨g4, 0, none⟩ = some (.slice none 0 0) := D4.out.cell 0
      have e1 : u1.cell? ⟨g4, 1, none⟩ = some (.slice none 0 0) := D4.out.cell 1
      have e2 : u1.cell? ⟨g4, 2, none⟩ = some (.slice none 0 0) := D4.out.cell 2
      have z0 := D4.out.frozen 0
      have z1 := D4.out.frozen 1
      have z2 := D4.out.frozen 2
      have HO : Hid (∀ a b c, Only (fun b => b = g4) u1 (((u1.setCell ⟨g4, 0, none⟩ a).setCell ⟨g4, 1, none⟩ b).setCell ⟨g4, 2, none⟩ c)) := fun a b c => (((Only.refl _ _).at_ 0 a).at_ 1 b).at_ 2 c
      have HS : Hid (∀ a b c, Cs (((u1.setCell ⟨g4, 0, none⟩ a).setCell ⟨g4, 1, none⟩ b).setCell ⟨g4, 2, none⟩ c) g4 makeT #[a, b, c]) := fun a b c => ((D4.out.set_ 0 a).set_ 1 b).set_ 2 c
      go_wp2_with fail
      have hl := load_mk (HS.out (.slice vA m.vars.length vc) (.slice (some ⟨b, o, none⟩) m.rules.length rc) (.slice pA m.phony.length pc))
      refine bodyPost_cell (p := 4) (u := 5) (ty := makeT) (ad := ⟨g4, 0, none⟩) rfl rfl rfl hl ?_
      rw [HF6.out]
      exact ⟨⟨vA, vc, (some ⟨b, o, none⟩), rc, pA, pc⟩, ini ++ [(a, r)], rfl, HSt.out.ext (HX.out _ _ X1.out (HO.out _ _ _)), HX.out _ _ X1.out (HO.out _ _ _)⟩
    have k28 : decide ((28 : Int) < (t.length : Int)) = false := by rw [decide_eq_false_iff_not]; omega
    have HFE := Lib.hid (HF5.out.trans (if_neg (by omega)))
    have HRd : Hid (SlR rulF u1 (some ⟨b, o, none⟩) (ini.length + 1) (ini ++ [(a, r)])) := by
      have := H.out.fr.ext (XB.out.then_ext X1.out)
      rw [HML.out] at this
      exact this
    have HCr : Hid (SlR strF w a.cA r.cmds.length r.cmds) := (H.out.rr (a, r) (by simp)).2.2
    clear HF5
    go_upto_region 13 with (at_builtin; go_must (refine wpList_append (v := .slice none 0 0) (n := 0) (xs := []) rfl ru_ty rfl rfl rfl (World.ownsRow_nil _ _ _ _) (HRd.out.rd (by decide)) (rul_enc1 _) (by omega) ?_); intro A6 c6 w6 hown6 hg6 hb6)
    have F6 : Fresh rulF ruleT u1 w6 A6 c6 (ini ++ [(a, r)]) := (Fresh.nil rulF ruleT u1 u1 (Only.refl _ _)).grow (m := ini.length + 1) (ys := ini ++ [(a, r)]) (by simp) hown6 hg6 hb6
    rw [Nat.zero_add] at hown6
    have hown6' : w6.ownsRow 0 ruleT 3 (.slice A6 (ini.length + 1 : Nat) c6) (ini.length + 1) ((ini ++ [(a, r)]).flatMap rulF.enc) := by
      have := F6.own
      rw [show (ini ++ [(a, r)]).length = ini.length + 1 by simp] at this
      exact this
    clear hown6 hg6 hb6
    obtain ⟨gR, rest, hA6, hC6, hl6, hlc6, hnc6, hmx6⟩ := own_block hown6' (by omega) (by decide)
    subst hA6
    have hgR1 : u1.heap.size ≤ gR := F6.new gR rfl
    have x6 : Ext w2 w6 := X1.out.then_ext F6.ext
    have hgR : w.heap.size ≤ gR := Nat.le_trans (XB.out.then_ext X1.out).size hgR1
    have d6 : w6.cell? ⟨gR, ini.length * 3 + 2, none⟩ = some (.slice a.cA r.cmds.length a.cc) := (hC6.cell _).trans (enc_last ini a r rest)
    clear hown6' F6 cc1 kk2
    go_upto_region 13 with fail
    refine Mix.wp_plain [8, 9, 11, 12, 15] (Cl w6 (fun q => q = gR)) (Cl.of (Only.refl _ _)) ?_
    (repeat' (refine Mix.lex_quiet0 rfl rfl rfl ?_; intro K hK; go_big_quiet_op; go_big_quiet_on))
    ((first | refine Mix.lex_goes0 rfl rfl ?_ | refine Mix.lex_goesG rfl rfl rfl (by with_reducible rfl) rfl ?_); intro K hK; go_simp)
    refine hK _ _ (fun _ => Cl.of (Only.refl _ _)) ?_
    clear hK K
    simp only [Act.put, List.setIfInBounds_toArray, List.set_cons_succ, List.set_cons_zero]
    refine Mix.lex_goes0 rfl rfl ?_
    intro K hK
    refine goes_append (v := .slice none 0 0) (n := 0) (xs := []) st_ty rfl rfl rfl (World.ownsRow_nil _ _ _ _) ((HCr.out.ext (XB.out.then_ext x6)).rd (by decide)) (str_enc1 r.cmds) (by omega) ?_
    intro A7 c7 w7 hown7 hg7 hb7
    have F7 : Fresh strF 9 w6 w7 A7 c7 r.cmds := (Fresh.nil strF 9 w6 w6 (Only.refl _ _)).grow (ys := r.cmds) rfl hown7 hg7 hb7
    rw [Nat.zero_add]
    refine hK _ _ (fun _ => Cl.of F7.ext.any) ?_
    clear hK K hown7 hg7 hb7
    simp only [Act.put, List.setIfInBounds_toArray, List.set_cons_succ, List.set_cons_zero]
    (repeat' (refine Mix.lex_quiet0 rfl rfl rfl ?_; intro K hK; go_big_quiet_op; go_big_quiet_on))
    ((first | refine Mix.lex_goes0 rfl rfl ?_ | refine Mix.lex_goesG rfl rfl rfl (by with_reducible rfl) rfl ?_); intro K hK; go_simp)
    obtain ⟨w8, hw8⟩ : ∃ u, u = w7.alloc (.cells #[S t] 9) := ⟨_, rfl⟩
    obtain ⟨g8, hg8⟩ : ∃ g, g = w7.heap.size := ⟨_, rfl⟩
    have hC8 : Cs w8 g8 9 #[S t] := by rw [hw8, hg8]; exact Cs.new _ _ _
    have x8 : Ext w7 w8 := by rw [hw8]; exact (Only.refl No _).alloc _
    rw [← hw8, ← hg8]
    refine hK _ _ (fun _ => Cl.of (F7.ext.then_ext x8).any) ?_
    clear hK K hw8 hg8
    simp only [Act.put, List.setIfInBounds_toArray, List.set_cons_succ, List.set_cons_zero]
    refine Mix.lex_goes0 rfl rfl ?_
    intro K hK
    have F8 := F7.on x8
    refine goes_append (v := .slice A7 r.cmds.length c7) (n := r.cmds.length) (xs := r.cmds.flatMap strF.enc) st_ty rfl rfl rfl F8.own (rd_cs (cs := [S t]) hC8) (by simp [Value.oneCell']) (by omega) ?_
    intro A9 c9 w9 hown9 hg9 hb9
    have F9 : Fresh strF 9 w6 w9 A9 c9 (r.cmds ++ [t]) := F8.grow (m := 1) (ys := [t]) rfl hown9 hg9 hb9
    refine hK _ _ (fun _ => Cl.of F9.ext.any) ?_
    clear hK K hown9 hg9 hb9
    simp only [Act.put, List.setIfInBounds_toArray, List.set_cons_succ, List.set_cons_zero]
    have hC9 := hC6.keep F9.ext id
    have d9 : w9.cell? ⟨gR, ini.length * 3 + 2, none⟩ = some (.slice a.cA r.cmds.length a.cc) := (hC9.cell _).trans (enc_last ini a r rest)
    have z9 := hC9.frozen (ini.length * 3 + 2)
    (repeat' (refine Mix.lex_quiet0 rfl rfl rfl ?_; intro K hK; go_big_quiet_op; go_big_quiet_on))
    ((first | refine Mix.lex_goes0 rfl rfl ?_ | refine Mix.lex_goesG rfl rfl rfl (by with_reducible rfl) rfl ?_); intro K hK; go_simp)
    obtain ⟨wE, hwE⟩ : ∃ u, u = w9.setCell ⟨gR, ini.length * 3 + 2, none⟩ (.slice A9 (r.cmds.length + 1 : Nat) c9) := ⟨_, rfl⟩
    rw [← hwE]
    have OE : Only (fun q => q = gR) w9 wE := by rw [hwE]; exact (Only.refl _ _).at_ _ _
    have hCg : Cs w6 g2 makeT #[.slice vA m.vars.length vc, .slice (some ⟨b, o, none⟩) m.rules.length rc, .slice pA m.phony.length pc] := CB.out.keep x6 id
    have hDg : Cs w6 g4 makeT #[.slice none 0 0, .slice none 0 0, .slice none 0 0] := C4.out.keep x6 id
    have hne2 : ¬ g2 = gR := Cs.ne_ hCg hC6 (by decide)
    have hne4 : ¬ g4 = gR := Cs.ne_ hDg hC6 (by decide)
    have hCE : Cs wE g2 makeT #[.slice vA m.vars.length vc, .slice (some ⟨b, o, none⟩) m.rules.length rc, .slice pA m.phony.length pc] := (hCg.keep F9.ext id).keep OE hne2
    have hDE : Cs wE g4 makeT #[.slice none 0 0, .slice none 0 0, .slice none 0 0] := (hDg.keep F9.ext id).keep OE hne4
    have HwE := Lib.hid hwE
    have hxD : Ext w w9 := (XB.out.then_ext x6).then_ext F9.ext
    refine hK _ _ (fun _ => Cl.of ((F9.ext.any).trans OE fun q _ e => e)) ?_
    clear hK K hwE
    simp only [Act.put, List.setIfInBounds_toArray, List.set_cons_succ, List.set_cons_zero]
    refine Mix.lex_nil ?_
    have p1 : wE.cell? ⟨g2, 1, none⟩ = some (.slice (some ⟨b, o, none⟩) m.rules.length rc) := hCE.cell 1
    have pz := hCE.frozen 1
    obtain ⟨wG, hwG⟩ : ∃ u, u = wE.setCell ⟨g2, 1, none⟩ (.slice (some ⟨gR, 0, none⟩) (ini.length + 1 : Nat) c6) := ⟨_, rfl⟩
    have OG : Only (fun q => q = g2) wE wG := by rw [hwG]; exact (Only.refl _ _).at_ _ _
    have CG := Lib.hid (show Cs wG g2 makeT #[.slice vA m.vars.length vc, .slice (some ⟨gR, 0, none⟩) (ini.length + 1 : Nat) c6, .slice pA m.phony.length pc] by rw [hwG]; exact hCE.set_ 1 _)
    have DG := Lib.hid (show Cs wG g4 makeT #[.slice none 0 0, .slice none 0 0, .slice none 0 0] from hDE.keep OG (fun e => hz24 e.symm))
    have HwG := Lib.hid hwG
    clear hwG
    go_upto_region 15 with fail
    rw [← HwG.out]
    have HFin : Hid (∀ wf, Only (fun q => q = g4) wG wf → HdRes w (⟨m.vars, ini.map (·.2) ++ [⟨r.targets, r.needs, r.cmds ++ [t]⟩], m.phony⟩, 0) (.returned (.tuple #[.agg #[.slice vA m.vars.length vc, .slice (some ⟨gR, 0, none⟩) (ini.length + 1 : Nat) c6, .slice pA m.phony.length pc], .int .i64 0])) wf) := fun wf h9 =>
      cm_done (w7 := wE) (w8 := wG) (wD := w9) (g2 := g2) (g4 := g4) (rest := rest) HSt.out hz2 hz4 hgR hxD hC9 F9.own HwE.out hnc6 hlc6 hmx6 hCE OG DG.out h9
    clear HwE HwG p1 pz OE OG hCE hDE hCg hDg d9 z9 hC9 hC6 F7 F8 F9 hC8
    have q0 : wG.cell? ⟨g2, 0, none⟩ = some (.slice vA m.vars.length vc) := CG.out.cell 0
    have q1 : wG.cell? ⟨g2, 1, none⟩ = some (.slice (some ⟨gR, 0, none⟩) (ini.length + 1 : Nat) c6) := CG.out.cell 1
    have q2 : wG.cell? ⟨g2, 2, none⟩ = some (.slice pA m.phony.length pc) := CG.out.cell 2
    have e0 : wG.cell? ⟨g4, 0, none⟩ = some (.slice none 0 0) := DG.out.cell 0
    have e1 : wG.cell? ⟨g4, 1, none⟩ = some (.slice none 0 0) := DG.out.cell 1
    have e2 : wG.cell? ⟨g4, 2, none⟩ = some (.slice none 0 0) := DG.out.cell 2
    have z0 := DG.out.frozen 0
    have z1 := DG.out.frozen 1
    have z2 := DG.out.frozen 2
    have HO : Hid (∀ a b c, Only (fun b => b = g4) wG (((wG.setCell ⟨g4, 0, none⟩ a).setCell ⟨g4, 1, none⟩ b).setCell ⟨g4, 2, none⟩ c)) := fun a b c => (((Only.refl _ _).at_ 0 a).at_ 1 b).at_ 2 c
    have HS : Hid (∀ a b c, Cs (((wG.setCell ⟨g4, 0, none⟩ a).setCell ⟨g4, 1, none⟩ b).setCell ⟨g4, 2, none⟩ c) g4 makeT #[a, b, c]) := fun a b c => ((DG.out.set_ 0 a).set_ 1 b).set_ 2 c
    go_wp2_with fail
    have hl := load_mk (HS.out (.slice vA m.vars.length vc) (.slice (some ⟨gR, 0, none⟩) (ini.length + 1 : Nat) c6) (.slice pA m.phony.length pc))
    refine bodyPost_cell (p := 4) (u := 5) (ty := makeT) (ad := ⟨g4, 0, none⟩) rfl rfl rfl hl ?_
    rw [HFE.out]
    obtain ⟨v', rs', he', hM', hE'⟩ := HFin.out _ (HO.out (.slice vA m.vars.length vc) (.slice (some ⟨gR, 0, none⟩) (ini.length + 1 : Nat) c6) (.slice pA m.phony.length pc))
    exact ⟨v', rs', he', hM', hE'⟩
  · have HF5 := Lib.hid (HF4.out.trans (if_pos he))
    have g7 : decide ((0 : Int) < e) = true := by rw [decide_eq_true_iff]; omega
    have D2 := Lib.hid (CB.out.keep X1.out id)
    have D4 := Lib.hid (C4.out.keep X1.out id)
    have q0 : u1.cell? ⟨g2, 0, none⟩ = some (.slice vA m.vars.length vc) := D2.out.cell 0
    have q1 : u1.cell? ⟨g2, 1, none⟩ = some (.slice (some ⟨b, o, none⟩) m.rules.length rc) := D2.out.cell 1
    have q2 : u1.cell? ⟨g2, 2, none⟩ = some (.slice pA m.phony.length pc) := D2.out.cell 2
    have e0 : u1.cell? ⟨g4, 0, none⟩ = some (.slice none 0 0) := D4.out.cell 0
    have e1 : u1.cell? ⟨g4, 1, none⟩ = some (.slice none 0 0) := D4.out.cell 1
    have e2 : u1.cell? ⟨g4, 2, none⟩ = some (.slice none 0 0) := D4.out.cell 2
    have z0 := D4.out.frozen 0
    have z1 := D4.out.frozen 1
    have z2 := D4.out.frozen 2
    have HO : Hid (∀ a b c, Only (fun b => b = g4) u1 (((u1.setCell ⟨g4, 0, none⟩ a).setCell ⟨g4, 1, none⟩ b).setCell ⟨g4, 2, none⟩ c)) := fun a b c => (((Only.refl _ _).at_ 0 a).at_ 1 b).at_ 2 c
    have HS : Hid (∀ a b c, Cs (((u1.setCell ⟨g4, 0, none⟩ a).setCell ⟨g4, 1, none⟩ b).setCell ⟨g4, 2, none⟩ c) g4 makeT #[a, b, c]) := fun a b c => ((D4.out.set_ 0 a).set_ 1 b).set_ 2 c
    go_wp2_with fail
    have hl := load_mk (HS.out (.slice vA m.vars.length vc) (.slice (some ⟨b, o, none⟩) m.rules.length rc) (.slice pA m.phony.length pc))
    refine bodyPost_cell (p := 4) (u := 5) (ty := makeT) (ad := ⟨g4, 0, none⟩) rfl rfl rfl hl ?_
    rw [HF5.out]
    exact ⟨⟨vA, vc, (some ⟨b, o, none⟩), rc, pA, pc⟩, ini ++ [(a, r)], rfl, HSt.out.ext (HX.out _ _ X1.out (HO.out _ _ _)), HX.out _ _ X1.out (HO.out _ _ _)⟩
set_option maxRecDepth 100000 in
set_option maxHeartbeats 8000000 in
theorem Ln_pho {w : World} {v : MkV} {rs : List (RulA × Rul)} {m : Mk} {k : Nat} (hS : MakeS w v rs m) (hf : m.Fit k) (hk : k ≤ 10000) (s : Str) (hs : s.length ≤ 600) (hs0 : 0 < s.length) (k35 : ¬ s[0] = 35) (k9 : ¬ s[0] = 9) (hph : Lib.hasPrefix s phonyT = true) :
    Calls Tryz.prog 34 #[mkV v m, S s] w (HdRes w (lineF m s)) := by
  obtain ⟨vA, vc, rA, rc, pA, pc⟩ := v
  obtain ⟨g2, hg2⟩ : ∃ g, g = w.heap.size := ⟨_, rfl⟩
  obtain ⟨w1, hw1⟩ : ∃ u, u = w.alloc (.cells #[.slice vA m.vars.length vc, .slice rA m.rules.length rc, .slice pA m.phony.length pc] makeT) := ⟨_, rfl⟩
  have x1 : Ext w w1 := by rw [hw1]; exact (Only.refl No w).alloc _
  have hc1 : Cs w1 g2 makeT #[.slice vA m.vars.length vc, .slice rA m.rules.length rc, .slice pA m.phony.length pc] := by rw [hw1, hg2]; exact Cs.new _ _ _
  obtain ⟨g4, hg4⟩ : ∃ g, g = w1.heap.size := ⟨_, rfl⟩
  obtain ⟨w2, hw2⟩ : ∃ u, u = w1.alloc (.cells #[.slice none 0 0, .slice none 0 0, .slice none 0 0] makeT) := ⟨_, rfl⟩
  have x2 : Ext w1 w2 := by rw [hw2]; exact (Only.refl No w1).alloc _
  have C4 : Hid (Cs w2 g4 makeT #[.slice none 0 0, .slice none 0 0, .slice none 0 0]) := by rw [hw2, hg4]; exact Cs.new _ _ _
  have CB := Lib.hid (hc1.keep x2 id)
  have hz : g4 = g2 + 1 := by rw [hg4, hg2, hw1]; simp
  have hz2 : w.heap.size ≤ g2 := by omega
  have hz4 : w.heap.size ≤ g4 := by omega
  have hz24 : g2 ≠ g4 := by omega
  have XB := Lib.hid (x1.then_ext x2)
  have HX : Hid (∀ u v', Ext w2 u → Only (fun b => b = g4) u v' → Ext w v') := fun u v' h1 h2 => (XB.out.then_ext h1).trans h2 fun b hb e => by have e : b = g4 := e; omega
  have HSt := Lib.hid hS
  have h := hS.here
  have H := Lib.hid h
  clear hS
  clear x1 x2 hc1
  have hr10 : m.rules.length ≤ 10 := hf.r
  have hv6 : m.vars.length ≤ 6 := hf.v
  have hp10 : m.phony.length ≤ 10000 := by have := hf.p; omega
  have HFt := Lib.hid hf
  have c0 : w2.cell? ⟨g2, 0, none⟩ = some (.slice vA m.vars.length vc) := CB.out.cell 0
  have c1 : w2.cell? ⟨g2, 1, none⟩ = some (.slice rA m.rules.length rc) := CB.out.cell 1
  have c2 : w2.cell? ⟨g2, 2, none⟩ = some (.slice pA m.phony.length pc) := CB.out.cell 2
  have X0 : Hid (Ext w2 w2) := Only.refl _ _
  clear h hf
  obtain ⟨x, hx0⟩ : ∃ x, s[0] = x := ⟨_, rfl⟩
  have hne : (s == ([] : Str)) = false := by
    cases s with
    | nil => simp at hs0
    | cons a l => rfl
  have HF : Hid (lineF m s = if x = 35 then (m, 0) else if x = 9 then cmdF m (s.drop 1) else if Lib.hasPrefix s phonyT = true then phoF m (s.drop 6) else if (Lib.cut s eqT).2.2 = true then varF m (Lib.cut s eqT).1 (Lib.cut s eqT).2.1 else headF m s) := by
    cases s with
    | nil => simp at hs0
    | cons a l =>
      have : a = x := hx0
      subst this
      exact lineF_cons m a l
  have h35 : ¬ x = 35 := by rw [← hx0]; exact k35
  have q1' : (((x.toNat : Int)) == 35) = false := (byte_eq' x 35).trans (decide_eq_false h35)
  have HF2 := Lib.hid (HF.out.trans (if_neg h35))
  clear HF h35
  have h9 : ¬ x = 9 := by rw [← hx0]; exact k9
  have q2' : (((x.toNat : Int)) == 9) = false := (byte_eq' x 9).trans (decide_eq_false h9)
  have HF3 := Lib.hid (HF2.out.trans (if_neg h9))
  clear h9 HF2
  have h6 : 6 ≤ s.length := by
    rw [← Lib.hasPrefix_of_take, Bool.and_eq_true, decide_eq_true_iff] at hph
    exact hph.1
  have g5 : decide ((5 : Int) < (s.length : Int)) = true := by rw [decide_eq_true_iff]; omega
  have g6 : (s.take 6 == phonyT) = true := by
    rw [← Lib.hasPrefix_of_take, Bool.and_eq_true] at hph
    exact hph.2
  have HF4 := Lib.hid (HF3.out.trans (if_pos hph))
  have HN := Lib.hid (fun v => NameMay_c (s.drop 6) v (by rw [List.length_drop]; omega))
  have HI := Lib.hid (fun (v : World) (hv : Ext w2 v) => In_c (c := pc) (H.out.fp.ext (XB.out.then_ext hv)) (by omega) (s.drop 6))
  have HF5 : Hid (phoF m (s.drop 6) = if nameB (s.drop 6) = false ∨ inS m.phony (s.drop 6) = true then (m, 3) else (⟨m.vars, m.rules, m.phony ++ [s.drop 6]⟩, 0)) := rfl
  clear hph HF3
  generalize nameB (s.drop 6) = bn at HN HF5
  generalize inS m.phony (s.drop 6) = bi at HI HF5
  show Calls _ _ #[.agg #[.slice vA m.vars.length vc, .slice rA m.rules.length rc, .slice pA m.phony.length pc], S s] _ _
  go_enter Tryz.func34, Tryz.ntmps34
  go_upto_region 1 with fail
  rw [← hw1, ← hg2, ← hw2, ← hz]
  clear hw1 hg2 hw2 hg4 hz
  go_wp2_with fail
  refine (HN.out _).mono ?_
  rintro e' u1 ⟨rfl, hu⟩
  have X1 := Lib.hid hu
  have d2 : u1.cell? ⟨g2, 2, none⟩ = some (.slice pA m.phony.length pc) := (CB.out.keep hu id).cell 2
  clear hu c0 c1 c2
  go_wp2_with fail
  refine (HI.out _ X1.out).mono ?_
  rintro e' u2 ⟨rfl, hu⟩
  have X2 := Lib.hid (X1.out.then_ext hu)
  clear hu d2 X1 HI HN
  by_cases hbad : bn = false ∨ bi = true
  · have HF6 := Lib.hid (HF4.out.trans (HF5.out.trans (if_pos hbad)))
    rcases hbad with rfl | rfl
    · clear HF5
      have D2 := Lib.hid (CB.out.keep X2.out id)
      have D4 := Lib.hid (C4.out.keep X2.out id)
      have q0 : u2.cell? ⟨g2, 0, none⟩ = some (.slice vA m.vars.length vc) := D2.out.cell 0
      have q1 : u2.cell? ⟨g2, 1, none⟩ = some (.slice rA m.rules.length rc) := D2.out.cell 1
      have q2 : u2.cell? ⟨g2, 2, none⟩ = some (.slice pA m.phony.length pc) := D2.out.cell 2
      have e0 : u2.cell? ⟨g4, 0, none⟩ = some (.slice none 0 0) := D4.out.cell 0
      have e1 : u2.cell? ⟨g4, 1, none⟩ = some (.slice none 0 0) := D4.out.cell 1
      have e2 : u2.cell? ⟨g4, 2, none⟩ = some (.slice none 0 0) := D4.out.cell 2
      have z0 := D4.out.frozen 0
      have z1 := D4.out.frozen 1
      have z2 := D4.out.frozen 2
      have HO : Hid (∀ a b c, Only (fun b => b = g4) u2 (((u2.setCell ⟨g4, 0, none⟩ a).setCell ⟨g4, 1, none⟩ b).setCell ⟨g4, 2, none⟩ c)) := fun a b c => (((Only.refl _ _).at_ 0 a).at_ 1 b).at_ 2 c
      have HS : Hid (∀ a b c, Cs (((u2.setCell ⟨g4, 0, none⟩ a).setCell ⟨g4, 1, none⟩ b).setCell ⟨g4, 2, none⟩ c) g4 makeT #[a, b, c]) := fun a b c => ((D4.out.set_ 0 a).set_ 1 b).set_ 2 c
      go_wp2_with fail
      have hl := load_mk (HS.out (.slice vA m.vars.length vc) (.slice rA m.rules.length rc) (.slice pA m.phony.length pc))
      refine bodyPost_cell (p := 4) (u := 5) (ty := makeT) (ad := ⟨g4, 0, none⟩) rfl rfl rfl hl ?_
      rw [HF6.out]
      exact ⟨⟨vA, vc, rA, rc, pA, pc⟩, rs, rfl, HSt.out.ext (HX.out _ _ X2.out (HO.out _ _ _)), HX.out _ _ X2.out (HO.out _ _ _)⟩
    · clear HF5
      cases bn
      · skip
        have D2 := Lib.hid (CB.out.keep X2.out id)
        have D4 := Lib.hid (C4.out.keep X2.out id)
        have q0 : u2.cell? ⟨g2, 0, none⟩ = some (.slice vA m.vars.length vc) := D2.out.cell 0
        have q1 : u2.cell? ⟨g2, 1, none⟩ = some (.slice rA m.rules.length rc) := D2.out.cell 1
        have q2 : u2.cell? ⟨g2, 2, none⟩ = some (.slice pA m.phony.length pc) := D2.out.cell 2
        have e0 : u2.cell? ⟨g4, 0, none⟩ = some (.slice none 0 0) := D4.out.cell 0
        have e1 : u2.cell? ⟨g4, 1, none⟩ = some (.slice none 0 0) := D4.out.cell 1
        have e2 : u2.cell? ⟨g4, 2, none⟩ = some (.slice none 0 0) := D4.out.cell 2
        have z0 := D4.out.frozen 0
        have z1 := D4.out.frozen 1
        have z2 := D4.out.frozen 2
        have HO : Hid (∀ a b c, Only (fun b => b = g4) u2 (((u2.setCell ⟨g4, 0, none⟩ a).setCell ⟨g4, 1, none⟩ b).setCell ⟨g4, 2, none⟩ c)) := fun a b c => (((Only.refl _ _).at_ 0 a).at_ 1 b).at_ 2 c
        have HS : Hid (∀ a b c, Cs (((u2.setCell ⟨g4, 0, none⟩ a).setCell ⟨g4, 1, none⟩ b).setCell ⟨g4, 2, none⟩ c) g4 makeT #[a, b, c]) := fun a b c => ((D4.out.set_ 0 a).set_ 1 b).set_ 2 c
        go_wp2_with fail
        have hl := load_mk (HS.out (.slice vA m.vars.length vc) (.slice rA m.rules.length rc) (.slice pA m.phony.length pc))
        refine bodyPost_cell (p := 4) (u := 5) (ty := makeT) (ad := ⟨g4, 0, none⟩) rfl rfl rfl hl ?_
        rw [HF6.out]
        exact ⟨⟨vA, vc, rA, rc, pA, pc⟩, rs, rfl, HSt.out.ext (HX.out _ _ X2.out (HO.out _ _ _)), HX.out _ _ X2.out (HO.out _ _ _)⟩
      · skip
        have D2 := Lib.hid (CB.out.keep X2.out id)
        have D4 := Lib.hid (C4.out.keep X2.out id)
        have q0 : u2.cell? ⟨g2, 0, none⟩ = some (.slice vA m.vars.length vc) := D2.out.cell 0
        have q1 : u2.cell? ⟨g2, 1, none⟩ = some (.slice rA m.rules.length rc) := D2.out.cell 1
        have q2 : u2.cell? ⟨g2, 2, none⟩ = some (.slice pA m.phony.length pc) := D2.out.cell 2
        have e0 : u2.cell? ⟨g4, 0, none⟩ = some (.slice none 0 0) := D4.out.cell 0
        have e1 : u2.cell? ⟨g4, 1, none⟩ = some (.slice none 0 0) := D4.out.cell 1
        have e2 : u2.cell? ⟨g4, 2, none⟩ = some (.slice none 0 0) := D4.out.cell 2
        have z0 := D4.out.frozen 0
        have z1 := D4.out.frozen 1
        have z2 := D4.out.frozen 2
        have HO : Hid (∀ a b c, Only (fun b => b = g4) u2 (((u2.setCell ⟨g4, 0, none⟩ a).setCell ⟨g4, 1, none⟩ b).setCell ⟨g4, 2, none⟩ c)) := fun a b c => (((Only.refl _ _).at_ 0 a).at_ 1 b).at_ 2 c
        have HS : Hid (∀ a b c, Cs (((u2.setCell ⟨g4, 0, none⟩ a).setCell ⟨g4, 1, none⟩ b).setCell ⟨g4, 2, none⟩ c) g4 makeT #[a, b, c]) := fun a b c => ((D4.out.set_ 0 a).set_ 1 b).set_ 2 c
        go_wp2_with fail
        have hl := load_mk (HS.out (.slice vA m.vars.length vc) (.slice rA m.rules.length rc) (.slice pA m.phony.length pc))
        refine bodyPost_cell (p := 4) (u := 5) (ty := makeT) (ad := ⟨g4, 0, none⟩) rfl rfl rfl hl ?_
        rw [HF6.out]
        exact ⟨⟨vA, vc, rA, rc, pA, pc⟩, rs, rfl, HSt.out.ext (HX.out _ _ X2.out (HO.out _ _ _)), HX.out _ _ X2.out (HO.out _ _ _)⟩
  · obtain ⟨rfl, rfl⟩ : bn = true ∧ bi = false := by
      cases bn <;> cases bi <;> simp_all
    have HFE := Lib.hid (HF4.out.trans (HF5.out.trans (if_neg (by simp))))
    clear HF4 HF5 hbad
    have hC2 : Cs u2 g2 makeT #[.slice vA m.vars.length vc, .slice rA m.rules.length rc, .slice pA m.phony.length pc] := CB.out.keep X2.out id
    have hD2 : Cs u2 g4 makeT #[.slice none 0 0, .slice none 0 0, .slice none 0 0] := C4.out.keep X2.out id
    have d2 : u2.cell? ⟨g2, 2, none⟩ = some (.slice pA m.phony.length pc) := hC2.cell 2
    have HPh : Hid (SlR strF u2 pA m.phony.length m.phony) := H.out.fp.ext (XB.out.then_ext X2.out)
    go_upto_region 22 with fail
    refine Mix.wp_plain [1, 2, 4, 5, 7] (Cl u2 (fun q => q = g2)) (Cl.of (Only.refl _ _)) ?_
    (repeat' (refine Mix.lex_quiet0 rfl rfl rfl ?_; intro K hK; go_big_quiet_op; go_big_quiet_on))
    ((first | refine Mix.lex_goes0 rfl rfl ?_ | refine Mix.lex_goesG rfl rfl rfl (by with_reducible rfl) rfl ?_); intro K hK; go_simp)
    refine hK _ _ (fun _ => Cl.of (Only.refl _ _)) ?_
    clear hK K
    simp only [Act.put, List.setIfInBounds_toArray, List.set_cons_succ, List.set_cons_zero]
    refine Mix.lex_goes0 rfl rfl ?_
    intro K hK
    refine goes_append (v := .slice none 0 0) (n := 0) (xs := []) st_ty rfl rfl rfl (World.ownsRow_nil _ _ _ _) (HPh.out.rd (by decide)) (str_enc1 m.phony) (by omega) ?_
    intro A6 c6 w6 hown6 hg6 hb6
    have F6 : Fresh strF 9 u2 w6 A6 c6 m.phony := (Fresh.nil strF 9 u2 u2 (Only.refl _ _)).grow (ys := m.phony) rfl hown6 hg6 hb6
    rw [Nat.zero_add]
    refine hK _ _ (fun _ => Cl.of F6.ext.any) ?_
    clear hK K hown6 hg6 hb6
    simp only [Act.put, List.setIfInBounds_toArray, List.set_cons_succ, List.set_cons_zero]
    (repeat' (refine Mix.lex_quiet0 rfl rfl rfl ?_; intro K hK; go_big_quiet_op; go_big_quiet_on))
    ((first | refine Mix.lex_goes0 rfl rfl ?_ | refine Mix.lex_goesG rfl rfl rfl (by with_reducible rfl) rfl ?_); intro K hK; go_simp)
    obtain ⟨w8, hw8⟩ : ∃ u, u = w6.alloc (.cells #[S (s.drop 6)] 9) := ⟨_, rfl⟩
    obtain ⟨g8, hg8⟩ : ∃ g, g = w6.heap.size := ⟨_, rfl⟩
    have hC8 : Cs w8 g8 9 #[S (s.drop 6)] := by rw [hw8, hg8]; exact Cs.new _ _ _
    have x8 : Ext w6 w8 := by rw [hw8]; exact (Only.refl No _).alloc _
    rw [← hw8, ← hg8]
    refine hK _ _ (fun _ => Cl.of (F6.ext.then_ext x8).any) ?_
    clear hK K hw8 hg8
    simp only [Act.put, List.setIfInBounds_toArray, List.set_cons_succ, List.set_cons_zero]
    refine Mix.lex_goes0 rfl rfl ?_
    intro K hK
    have F8 := F6.on x8
    refine goes_append (v := .slice A6 m.phony.length c6) (n := m.phony.length) (xs := m.phony.flatMap strF.enc) st_ty rfl rfl rfl F8.own (rd_cs (cs := [S (s.drop 6)]) hC8) (by simp [Value.oneCell']) (by omega) ?_
    intro A9 c9 w9 hown9 hg9 hb9
    have F9 : Fresh strF 9 u2 w9 A9 c9 (m.phony ++ [s.drop 6]) := F8.grow (m := 1) (ys := [s.drop 6]) rfl hown9 hg9 hb9
    refine hK _ _ (fun _ => Cl.of F9.ext.any) ?_
    clear hK K hown9 hg9 hb9
    simp only [Act.put, List.setIfInBounds_toArray, List.set_cons_succ, List.set_cons_zero]
    have hC9 := hC2.keep F9.ext id
    have hD9 := hD2.keep F9.ext id
    have d9 : w9.cell? ⟨g2, 2, none⟩ = some (.slice pA m.phony.length pc) := hC9.cell 2
    have z9 := hC9.frozen 2
    (repeat' (refine Mix.lex_quiet0 rfl rfl rfl ?_; intro K hK; go_big_quiet_op; go_big_quiet_on))
    ((first | refine Mix.lex_goes0 rfl rfl ?_ | refine Mix.lex_goesG rfl rfl rfl (by with_reducible rfl) rfl ?_); intro K hK; go_simp)
    obtain ⟨wG, hwG⟩ : ∃ u, u = w9.setCell ⟨g2, 2, none⟩ (.slice A9 (m.phony.length + 1 : Nat) c9) := ⟨_, rfl⟩
    rw [← hwG]
    have OG : Only (fun q => q = g2) w9 wG := by rw [hwG]; exact (Only.refl _ _).at_ _ _
    refine hK _ _ (fun _ => Cl.of (F9.ext.any.trans OG fun q _ e => e)) ?_
    clear hK K
    simp only [Act.put, List.setIfInBounds_toArray, List.set_cons_succ, List.set_cons_zero]
    refine Mix.lex_nil ?_
    have CG := Lib.hid (show Cs wG g2 makeT #[.slice vA m.vars.length vc, .slice rA m.rules.length rc, .slice A9 (m.phony.length + 1 : Nat) c9] by rw [hwG]; exact hC9.set_ 2 _)
    have DG := Lib.hid (show Cs wG g4 makeT #[.slice none 0 0, .slice none 0 0, .slice none 0 0] from hD9.keep OG (fun e => hz24 e.symm))
    have HFin : Hid (∀ wf, Only (fun q => q = g4) wG wf → HdRes w (⟨m.vars, m.rules, m.phony ++ [s.drop 6]⟩, 0) (.returned (.tuple #[.agg #[.slice vA m.vars.length vc, .slice rA m.rules.length rc, .slice A9 (m.phony.length + 1 : Nat) c9], .int .i64 0])) wf) := fun wf h9 =>
      ph_done (w7 := w9) (w8 := wG) (g2 := g2) (g4 := g4) HSt.out hz2 hz4 ((XB.out.then_ext X2.out).then_ext F9.ext) F9.own hC9 OG DG.out h9
    clear hwG OG d9 z9 hC9 hD9 F6 F8 F9 hC8 hC2 hD2 d2
    have q0 : wG.cell? ⟨g2, 0, none⟩ = some (.slice vA m.vars.length vc) := CG.out.cell 0
    have q1 : wG.cell? ⟨g2, 1, none⟩ = some (.slice rA m.rules.length rc) := CG.out.cell 1
    have q2 : wG.cell? ⟨g2, 2, none⟩ = some (.slice A9 (m.phony.length + 1 : Nat) c9) := CG.out.cell 2
    have e0 : wG.cell? ⟨g4, 0, none⟩ = some (.slice none 0 0) := DG.out.cell 0
    have e1 : wG.cell? ⟨g4, 1, none⟩ = some (.slice none 0 0) := DG.out.cell 1
    have e2 : wG.cell? ⟨g4, 2, none⟩ = some (.slice none 0 0) := DG.out.cell 2
    have z0 := DG.out.frozen 0
    have z1 := DG.out.frozen 1
    have z2 := DG.out.frozen 2
    have HO : Hid (∀ a b c, Only (fun b => b = g4) wG (((wG.setCell ⟨g4, 0, none⟩ a).setCell ⟨g4, 1, none⟩ b).setCell ⟨g4, 2, none⟩ c)) := fun a b c => (((Only.refl _ _).at_ 0 a).at_ 1 b).at_ 2 c
    have HS : Hid (∀ a b c, Cs (((wG.setCell ⟨g4, 0, none⟩ a).setCell ⟨g4, 1, none⟩ b).setCell ⟨g4, 2, none⟩ c) g4 makeT #[a, b, c]) := fun a b c => ((DG.out.set_ 0 a).set_ 1 b).set_ 2 c
    go_wp2_with fail
    have hl := load_mk (HS.out (.slice vA m.vars.length vc) (.slice rA m.rules.length rc) (.slice A9 (m.phony.length + 1 : Nat) c9))
    refine bodyPost_cell (p := 4) (u := 5) (ty := makeT) (ad := ⟨g4, 0, none⟩) rfl rfl rfl hl ?_
    rw [HFE.out]
    obtain ⟨v', rs', he', hM', hE'⟩ := HFin.out _ (HO.out (.slice vA m.vars.length vc) (.slice rA m.rules.length rc) (.slice A9 (m.phony.length + 1 : Nat) c9))
    exact ⟨v', rs', he', hM', hE'⟩
end Go.Proofs.YtnhaekifcieeoaaGreatDoor
