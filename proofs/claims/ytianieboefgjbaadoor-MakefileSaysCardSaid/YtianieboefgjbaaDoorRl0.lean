/- The document's lined, a part. -/
import Derived.Test.YtianieboefgjbaaDoorRhd
namespace Go.Proofs.YtianieboefgjbaaDoor
open Go Go.RowKit
theorem byte_eq' (x c : UInt8) : (((x.toNat : Int)) == ((c.toNat : Int))) = decide (x = c) := by
  rw [Bool.eq_iff_iff, beq_iff_eq, decide_eq_true_iff]
  exact ⟨fun h => UInt8.toNat_inj.1 (by omega), fun h => by rw [h]⟩
section
variable {w w7 w8 wf : World} {g2 g4 : Nat} {vA rA pA A7 : Option Addr} {vc rc pc c7 : Nat} {rs : List (RulA × Rul)} {m : Mk} {cs ds : Array Value}
theorem two_keep {e : TypeId} {size n : Nat} {x : Value} {xs : List Value} (c2 : Cs w7 g2 makeT cs) (O8 : Only (fun q => q = g2) w7 w8) (d4 : Cs w8 g4 makeT ds) (O9 : Only (fun q => q = g4) w8 wf) (hh : w7.ownsRow 0 e size x n xs) (hne : e ≠ makeT) : wf.ownsRow 0 e size x n xs := by
  have k8 := own_keep hh O8 (own_ne_cs hh c2 hne)
  exact own_keep k8 O9 (own_ne_cs k8 d4 hne)
theorem two_ext (h2 : w.heap.size ≤ g2) (h4 : w.heap.size ≤ g4) (x7 : Ext w w7) (O8 : Only (fun q => q = g2) w7 w8) (O9 : Only (fun q => q = g4) w8 wf) : Ext w wf :=
  (x7.trans O8 fun b hb e => by have e : b = g2 := e; omega).trans O9 fun b hb e => by have e : b = g4 := e; omega
theorem ph_done {t : Str} (hS : MakeS w ⟨vA, vc, rA, rc, pA, pc⟩ rs m) (h2 : w.heap.size ≤ g2) (h4 : w.heap.size ≤ g4) (x7 : Ext w w7)
    (hF : w7.ownsRow 0 9 1 (.slice A7 (m.phony ++ [t]).length c7) (m.phony ++ [t]).length ((m.phony ++ [t]).flatMap strF.enc))
    (c2 : Cs w7 g2 makeT cs) (O8 : Only (fun q => q = g2) w7 w8) (d4 : Cs w8 g4 makeT ds) (O9 : Only (fun q => q = g4) w8 wf) :
    HdRes w (⟨m.vars, m.rules, m.phony ++ [t]⟩, 0) (.returned (.tuple #[.agg #[.slice vA m.vars.length vc, .slice rA m.rules.length rc, .slice A7 (m.phony.length + 1 : Nat) c7], .int .i64 0])) wf := by
  have E9 := two_ext h2 h4 x7 O8 O9
  refine ⟨⟨vA, vc, rA, rc, A7, c7⟩, rs, ?_, fun u hu => ⟨((hS.ext E9) u hu).fv, ((hS.ext E9) u hu).fr, SlR.of_own (T := strF) (by decide) (own_box (two_keep c2 O8 d4 O9 hF (by decide)) (by decide) hu), ((hS.ext E9) u hu).rr, hS.here.rm⟩, E9⟩
  show _ = Ending.returned (.tuple #[.agg #[_, _, .slice A7 (m.phony ++ [t]).length c7], _])
  rw [List.length_append]
  rfl
theorem va_done {t : File} (hS : MakeS w ⟨vA, vc, rA, rc, pA, pc⟩ rs m) (h2 : w.heap.size ≤ g2) (h4 : w.heap.size ≤ g4) (x7 : Ext w w7)
    (hF : w7.ownsRow 0 varT 2 (.slice A7 (m.vars ++ [t]).length c7) (m.vars ++ [t]).length ((m.vars ++ [t]).flatMap fileF.enc))
    (c2 : Cs w7 g2 makeT cs) (O8 : Only (fun q => q = g2) w7 w8) (d4 : Cs w8 g4 makeT ds) (O9 : Only (fun q => q = g4) w8 wf) :
    HdRes w (⟨m.vars ++ [t], m.rules, m.phony⟩, 0) (.returned (.tuple #[.agg #[.slice A7 (m.vars.length + 1 : Nat) c7, .slice rA m.rules.length rc, .slice pA m.phony.length pc], .int .i64 0])) wf := by
  have E9 := two_ext h2 h4 x7 O8 O9
  refine ⟨⟨A7, c7, rA, rc, pA, pc⟩, rs, ?_, fun u hu => ⟨SlR.of_own (T := fileF) (by decide) (own_box (two_keep c2 O8 d4 O9 hF (by decide)) (by decide) hu), ((hS.ext E9) u hu).fr, ((hS.ext E9) u hu).fp, ((hS.ext E9) u hu).rr, hS.here.rm⟩, E9⟩
  show _ = Ending.returned (.tuple #[.agg #[.slice A7 (m.vars ++ [t]).length c7, _, _], _])
  rw [List.length_append]
  rfl
theorem cm_done {wD : World} {gR : Nat} {A8 : Option Addr} {c8 : Nat} {t : Str} {a : RulA} {r : Rul} {rest : List Value} (hS : MakeS w ⟨vA, vc, rA, rc, pA, pc⟩ (rs ++ [(a, r)]) m) (h2 : w.heap.size ≤ g2) (h4 : w.heap.size ≤ g4) (hgR : w.heap.size ≤ gR) (xD : Ext w wD)
    (hR : Cs wD gR ruleT ((rs ++ [(a, r)]).flatMap rulF.enc ++ rest).toArray)
    (h8 : wD.ownsRow 0 9 1 (.slice A8 (r.cmds ++ [t]).length c8) (r.cmds ++ [t]).length ((r.cmds ++ [t]).flatMap strF.enc))
    (hE : w7 = wD.setCell ⟨gR, rs.length * 3 + 2, none⟩ (.slice A8 (r.cmds.length + 1 : Nat) c8)) (hnc : rs.length + 1 ≤ c7) (hlc : ((rs ++ [(a, r)]).flatMap rulF.enc ++ rest).length = c7 * 3) (hmx : c7 ≤ maxLen)
    (c2 : Cs w7 g2 makeT cs) (O8 : Only (fun q => q = g2) w7 w8) (d4 : Cs w8 g4 makeT ds) (O9 : Only (fun q => q = g4) w8 wf) :
    HdRes w (⟨m.vars, rs.map (·.2) ++ [⟨r.targets, r.needs, r.cmds ++ [t]⟩], m.phony⟩, 0) (.returned (.tuple #[.agg #[.slice vA m.vars.length vc, .slice (some ⟨gR, 0, none⟩) (rs.length + 1 : Nat) c7, .slice pA m.phony.length pc], .int .i64 0])) wf := by
  have OE : Only (fun q => q = gR) wD w7 := by rw [hE]; exact (Only.refl _ _).at_ _ _
  have x7 : Ext w w7 := xD.trans OE fun b hb e => by have e : b = gR := e; omega
  have E9 := two_ext h2 h4 x7 O8 O9
  have k8 := own_keep h8 OE (own_ne_cs h8 hR (by decide))
  have hC := hR.set_ (rs.length * 3 + 2) (.slice A8 (r.cmds.length + 1 : Nat) c8)
  rw [← hE] at hC
  have e9 : (((rs ++ [(a, r)]).flatMap rulF.enc ++ rest).toArray.setIfInBounds (rs.length * 3 + 2) (.slice A8 (r.cmds.length + 1 : Nat) c8)) = ((rs ++ [(({ a with cA := A8, cc := c8 } : RulA), (⟨r.targets, r.needs, r.cmds ++ [t]⟩ : Rul))]).flatMap rulF.enc ++ rest).toArray := by
    apply Array.ext'
    rw [Array.toList_setIfInBounds]
    have h0 : (rs.flatMap rulF.enc).length = rs.length * 3 := length_flatMap_enc rulF rs
    rw [List.flatMap_append, List.flatMap_append, List.append_assoc, List.append_assoc]
    show (rs.flatMap rulF.enc ++ ([_, _, _] ++ rest)).set (rs.length * 3 + 2) _ = rs.flatMap rulF.enc ++ ([_, _, _] ++ rest)
    rw [List.set_append_right _ _ (by omega), h0, show rs.length * 3 + 2 - rs.length * 3 = 2 by omega]
    simp
  rw [e9] at hC
  have hrow : w7.ownsRow 0 ruleT 3 (.slice (some ⟨gR, 0, none⟩) (rs.length + 1 : Nat) c7) (rs.length + 1) ((rs ++ [(({ a with cA := A8, cc := c8 } : RulA), (⟨r.targets, r.needs, r.cmds ++ [t]⟩ : Rul))]).flatMap rulF.enc) := by
    refine own_of_block hC (Nat.zero_le _) ?_ ?_ hnc hmx
    · rw [length_flatMap_enc]; simp [rulF]
    · rw [List.length_append] at hlc ⊢
      rw [← hlc, length_flatMap_enc, length_flatMap_enc]
      simp
  refine ⟨⟨vA, vc, some ⟨gR, 0, none⟩, c7, pA, pc⟩, rs ++ [(({ a with cA := A8, cc := c8 } : RulA), (⟨r.targets, r.needs, r.cmds ++ [t]⟩ : Rul))], ?_, fun u hu => ⟨((hS.ext E9) u hu).fv, ?_, ((hS.ext E9) u hu).fp, fun x hx => ?_, ?_⟩, E9⟩
  · show _ = Ending.returned (.tuple #[.agg #[_, .slice _ (rs.map (·.2) ++ [(⟨r.targets, r.needs, r.cmds ++ [t]⟩ : Rul)]).length c7, _], _])
    rw [List.length_append, List.length_map]
    rfl
  · have := SlR.of_own (T := rulF) (by decide) (own_box (two_keep c2 O8 d4 O9 hrow (by decide)) (by decide) hu)
    show SlR rulF u _ (rs.map (·.2) ++ [(⟨r.targets, r.needs, r.cmds ++ [t]⟩ : Rul)]).length _
    rw [List.length_append, List.length_map]
    exact this
  · rcases List.mem_append.1 hx with hx | hx
    · exact ((hS.ext E9) u hu).rr x (List.mem_append_left _ hx)
    · obtain rfl := List.mem_singleton.1 hx
      have hlast := ((hS.ext E9) u hu).rr (a, r) (by simp)
      exact ⟨hlast.1, hlast.2.1, SlR.of_own (T := strF) (by decide) (own_box (two_keep c2 O8 d4 O9 k8 (by decide)) (by decide) hu)⟩
  · rw [List.map_append]
    rfl
end
theorem va_enc1 (xs : List File) : ∀ u ∈ xs.flatMap fileF.enc, u.oneCell' = true := by
  intro u hu
  obtain ⟨x, _, hx⟩ := List.mem_flatMap.1 hu
  simp only [fileF, List.mem_cons, List.not_mem_nil, or_false] at hx
  rcases hx with rfl | rfl <;> rfl
set_option maxRecDepth 100000 in
set_option maxHeartbeats 8000000 in
theorem Ln_nil {w : World} {v : MkV} {rs : List (RulA × Rul)} {m : Mk} {k : Nat} (hS : MakeS w v rs m) (hf : m.Fit k) (hk : k ≤ 10000) (s : Str) (hs : s.length ≤ 600) (h0 : s.length = 0) :
    Calls Tryd.prog 16 #[mkV v m, S s] w (HdRes w (lineF m s)) := by
  obtain ⟨vA, vc, rA, rc, pA, pc⟩ := v
  obtain ⟨g2, hg2⟩ : ∃ g, g = w.heap.size := ⟨_, rfl⟩
  obtain ⟨w1, hw1⟩ : ∃ u, u = w.alloc (.cells #[.slice vA m.vars.length vc, .slice rA m.rules.length rc, .slice pA m.phony.length pc] makeT) := ⟨_, rfl⟩
  have x1 : Ext w w1 := by rw [hw1]; exact (Only.refl No w).alloc _
  have hc1 : Cs w1 g2 makeT #[.slice vA m.vars.length vc, .slice rA m.rules.length rc, .slice pA m.phony.length pc] := by rw [hw1, hg2]; exact Cs.new _ _ _
  obtain ⟨g4, hg4⟩ : ∃ g, g = w1.heap.size := ⟨_, rfl⟩
  obtain ⟨w2, hw2⟩ : ∃ u, u = w1.alloc (.cells #[.slice none 0 0, .slice none 0 0, .slice none 0 0] makeT) := ⟨_, rfl⟩
  have x2 : Ext w1 w2 := by rw [hw2]; exact (Only.refl No w1).alloc _
  have C4 : Hid (Cs w2 g4 makeT #[.slice none 0 0, .slice none 0 0, .slice none 0 0]) := by rw [hw2, hg4]; exact Cs.new _ _ _
  have CB := Lib.hid (hc1.keep x2 id)
  have hz : g4 = g2 + 1 := by rw [hg4, hg2, hw1]; simp
  have hz2 : w.heap.size ≤ g2 := by omega
  have hz4 : w.heap.size ≤ g4 := by omega
  have hz24 : g2 ≠ g4 := by omega
  have XB := Lib.hid (x1.then_ext x2)
  have HX : Hid (∀ u v', Ext w2 u → Only (fun b => b = g4) u v' → Ext w v') := fun u v' h1 h2 => (XB.out.then_ext h1).trans h2 fun b hb e => by have e : b = g4 := e; omega
  have HSt := Lib.hid hS
  have h := hS.here
  have H := Lib.hid h
  clear hS
  clear x1 x2 hc1
  have hr10 : m.rules.length ≤ 10 := hf.r
  have hv6 : m.vars.length ≤ 6 := hf.v
  have hp10 : m.phony.length ≤ 10000 := by have := hf.p; omega
  have HFt := Lib.hid hf
  have c0 : w2.cell? ⟨g2, 0, none⟩ = some (.slice vA m.vars.length vc) := CB.out.cell 0
  have c1 : w2.cell? ⟨g2, 1, none⟩ = some (.slice rA m.rules.length rc) := CB.out.cell 1
  have c2 : w2.cell? ⟨g2, 2, none⟩ = some (.slice pA m.phony.length pc) := CB.out.cell 2
  have X0 : Hid (Ext w2 w2) := Only.refl _ _
  clear h hf
  have hnil : s = [] := List.eq_nil_of_length_eq_zero h0
  have HF0 : Hid (lineF m s = (m, 0)) := by rw [Hid, hnil]; rfl
  have hne : (s == ([] : Str)) = true := by rw [hnil]; rfl
  clear hnil h0
  show Calls _ _ #[.agg #[.slice vA m.vars.length vc, .slice rA m.rules.length rc, .slice pA m.phony.length pc], S s] _ _
  go_enter Tryd.func16, Tryd.ntmps16
  go_upto_region 1 with fail
  rw [← hw1, ← hg2, ← hw2, ← hz]
  clear hw1 hg2 hw2 hg4 hz
  have D2 := Lib.hid (CB.out.keep X0.out id)
  have D4 := Lib.hid (C4.out.keep X0.out id)
  have q0 : w2.cell? ⟨g2, 0, none⟩ = some (.slice vA m.vars.length vc) := D2.out.cell 0
  have q1 : w2.cell? ⟨g2, 1, none⟩ = some (.slice rA m.rules.length rc) := D2.out.cell 1
  have q2 : w2.cell? ⟨g2, 2, none⟩ = some (.slice pA m.phony.length pc) := D2.out.cell 2
  have e0 : w2.cell? ⟨g4, 0, none⟩ = some (.slice none 0 0) := D4.out.cell 0
  have e1 : w2.cell? ⟨g4, 1, none⟩ = some (.slice none 0 0) := D4.out.cell 1
  have e2 : w2.cell? ⟨g4, 2, none⟩ = some (.slice none 0 0) := D4.out.cell 2
  have z0 := D4.out.frozen 0
  have z1 := D4.out.frozen 1
  have z2 := D4.out.frozen 2
  have HO : Hid (∀ a b c, Only (fun b => b = g4) w2 (((w2.setCell ⟨g4, 0, none⟩ a).setCell ⟨g4, 1, none⟩ b).setCell ⟨g4, 2, none⟩ c)) := fun a b c => (((Only.refl _ _).at_ 0 a).at_ 1 b).at_ 2 c
  have HS : Hid (∀ a b c, Cs (((w2.setCell ⟨g4, 0, none⟩ a).setCell ⟨g4, 1, none⟩ b).setCell ⟨g4, 2, none⟩ c) g4 makeT #[a, b, c]) := fun a b c => ((D4.out.set_ 0 a).set_ 1 b).set_ 2 c
  go_wp2_with (first | (refine Mix.wpList_guarded rfl ?_; (repeat' (first | (refine Mix.lex_quiet0 rfl rfl rfl ?_; intro K hK; go_big_quiet_op; go_big_quiet_on) | (refine Mix.lex_quietG rfl rfl rfl (by with_reducible rfl) rfl rfl ?_; intro K hK; go_big_quiet_op; go_big_quiet_on) | ((first | refine Mix.lex_skipT rfl rfl rfl (by with_reducible rfl) ?_ | refine Mix.lex_skipF rfl rfl rfl (by with_reducible rfl) ?_ | refine Mix.lex_skipU rfl rfl rfl (by with_reducible rfl) ?_); simp only [Act.put, List.setIfInBounds_toArray, List.set_cons_succ, List.set_cons_zero]) | (refine Mix.lex_part rfl rfl rfl rfl (fun hq => ?_) (fun hq => ?_) <;> (fail_if_success (guard_hyp hq :ₛ true = true)) <;> (fail_if_success (guard_hyp hq :ₛ false = false)) <;> first | (exfalso; cases hq; done) | (exfalso; simp only [decide_eq_true_eq, decide_eq_false_iff_not, beq_iff_eq, beq_eq_false_iff_ne, ne_eq, Int.not_lt, Int.not_le] at hq; omega) | simp only [Act.put, List.setIfInBounds_toArray, List.set_cons_succ, List.set_cons_zero]))); all_goals (refine Mix.lex_nil ?_)) | (refine Mix.wp_still (by kernel_rfl) (by kernel_rfl) ?_; (repeat' (first | (refine Mix.lex_quiet0 rfl rfl rfl ?_; intro K hK; go_big_quiet_op; go_big_quiet_on) | (refine Mix.lex_quietG rfl rfl rfl (by with_reducible rfl) rfl rfl ?_; intro K hK; go_big_quiet_op; go_big_quiet_on) | ((first | refine Mix.lex_skipT rfl rfl rfl (by with_reducible rfl) ?_ | refine Mix.lex_skipF rfl rfl rfl (by with_reducible rfl) ?_ | refine Mix.lex_skipU rfl rfl rfl (by with_reducible rfl) ?_); simp only [Act.put, List.setIfInBounds_toArray, List.set_cons_succ, List.set_cons_zero]) | (refine Mix.lex_part rfl rfl rfl rfl (fun hq => ?_) (fun hq => ?_) <;> (fail_if_success (guard_hyp hq :ₛ true = true)) <;> (fail_if_success (guard_hyp hq :ₛ false = false)) <;> first | (exfalso; cases hq; done) | (exfalso; simp only [decide_eq_true_eq, decide_eq_false_iff_not, beq_iff_eq, beq_eq_false_iff_ne, ne_eq, Int.not_lt, Int.not_le] at hq; omega) | simp only [Act.put, List.setIfInBounds_toArray, List.set_cons_succ, List.set_cons_zero]))); all_goals (refine Mix.lex_nil ?_)))
  have hl := load_mk (HS.out (.slice vA m.vars.length vc) (.slice rA m.rules.length rc) (.slice pA m.phony.length pc))
  refine bodyPost_cell (p := 4) (u := 5) (ty := makeT) (ad := ⟨g4, 0, none⟩) rfl rfl rfl hl ?_
  rw [HF0.out]
  exact ⟨⟨vA, vc, rA, rc, pA, pc⟩, rs, rfl, HSt.out.ext (HX.out _ _ X0.out (HO.out _ _ _)), HX.out _ _ X0.out (HO.out _ _ _)⟩
set_option maxRecDepth 100000 in
set_option maxHeartbeats 8000000 in
theorem Ln_note {w : World} {v : MkV} {rs : List (RulA × Rul)} {m : Mk} {k : Nat} (hS : MakeS w v rs m) (hf : m.Fit k) (hk : k ≤ 10000) (s : Str) (hs : s.length ≤ 600) (hs0 : 0 < s.length) (k35 : s[0] = 35) :
    Calls Tryd.prog 16 #[mkV v m, S s] w (HdRes w (lineF m s)) := by
  obtain ⟨vA, vc, rA, rc, pA, pc⟩ := v
  obtain ⟨g2, hg2⟩ : ∃ g, g = w.heap.size := ⟨_, rfl⟩
  obtain ⟨w1, hw1⟩ : ∃ u, u = w.alloc (.cells #[.slice vA m.vars.length vc, .slice rA m.rules.length rc, .slice pA m.phony.length pc] makeT) := ⟨_, rfl⟩
  have x1 : Ext w w1 := by rw [hw1]; exact (Only.refl No w).alloc _
  have hc1 : Cs w1 g2 makeT #[.slice vA m.vars.length vc, .slice rA m.rules.length rc, .slice pA m.phony.length pc] := by rw [hw1, hg2]; exact Cs.new _ _ _
  obtain ⟨g4, hg4⟩ : ∃ g, g = w1.heap.size := ⟨_, rfl⟩
  obtain ⟨w2, hw2⟩ : ∃ u, u = w1.alloc (.cells #[.slice none 0 0, .slice none 0 0, .slice none 0 0] makeT) := ⟨_, rfl⟩
  have x2 : Ext w1 w2 := by rw [hw2]; exact (Only.refl No w1).alloc _
  have C4 : Hid (Cs w2 g4 makeT #[.slice none 0 0, .slice none 0 0, .slice none 0 0]) := by rw [hw2, hg4]; exact Cs.new _ _ _
  have CB := Lib.hid (hc1.keep x2 id)
  have hz : g4 = g2 + 1 := by rw [hg4, hg2, hw1]; simp
  have hz2 : w.heap.size ≤ g2 := by omega
  have hz4 : w.heap.size ≤ g4 := by omega
  have hz24 : g2 ≠ g4 := by omega
  have XB := Lib.hid (x1.then_ext x2)
  have HX : Hid (∀ u v', Ext w2 u → Only (fun b => b = g4) u v' → Ext w v') := fun u v' h1 h2 => (XB.out.then_ext h1).trans h2 fun b hb e => by have e : b = g4 := e; omega
  have HSt := Lib.hid hS
  have h := hS.here
  have H := Lib.hid h
  clear hS
  clear x1 x2 hc1
  have hr10 : m.rules.length ≤ 10 := hf.r
  have hv6 : m.vars.length ≤ 6 := hf.v
  have hp10 : m.phony.length ≤ 10000 := by have := hf.p; omega
  have HFt := Lib.hid hf
  have c0 : w2.cell? ⟨g2, 0, none⟩ = some (.slice vA m.vars.length vc) := CB.out.cell 0
  have c1 : w2.cell? ⟨g2, 1, none⟩ = some (.slice rA m.rules.length rc) := CB.out.cell 1
  have c2 : w2.cell? ⟨g2, 2, none⟩ = some (.slice pA m.phony.length pc) := CB.out.cell 2
  have X0 : Hid (Ext w2 w2) := Only.refl _ _
  clear h hf
  obtain ⟨x, hx0⟩ : ∃ x, s[0] = x := ⟨_, rfl⟩
  have hne : (s == ([] : Str)) = false := by
    cases s with
    | nil => simp at hs0
    | cons a l => rfl
  have HF : Hid (lineF m s = if x = 35 then (m, 0) else if x = 9 then cmdF m (s.drop 1) else if Lib.hasPrefix s phonyT = true then phoF m (s.drop 6) else if (Lib.cut s eqT).2.2 = true then varF m (Lib.cut s eqT).1 (Lib.cut s eqT).2.1 else headF m s) := by
    cases s with
    | nil => simp at hs0
    | cons a l =>
      have : a = x := hx0
      subst this
      exact lineF_cons m a l
  have h35 : x = 35 := by rw [← hx0]; exact k35
  have q1' : (((x.toNat : Int)) == 35) = true := (byte_eq' x 35).trans (decide_eq_true h35)
  have HF2 := Lib.hid (HF.out.trans (if_pos h35))
  clear h35
  show Calls _ _ #[.agg #[.slice vA m.vars.length vc, .slice rA m.rules.length rc, .slice pA m.phony.length pc], S s] _ _
  go_enter Tryd.func16, Tryd.ntmps16
  go_upto_region 1 with fail
  rw [← hw1, ← hg2, ← hw2, ← hz]
  clear hw1 hg2 hw2 hg4 hz
  have D2 := Lib.hid (CB.out.keep X0.out id)
  have D4 := Lib.hid (C4.out.keep X0.out id)
  have q0 : w2.cell? ⟨g2, 0, none⟩ = some (.slice vA m.vars.length vc) := D2.out.cell 0
  have q1 : w2.cell? ⟨g2, 1, none⟩ = some (.slice rA m.rules.length rc) := D2.out.cell 1
  have q2 : w2.cell? ⟨g2, 2, none⟩ = some (.slice pA m.phony.length pc) := D2.out.cell 2
  have e0 : w2.cell? ⟨g4, 0, none⟩ = some (.slice none 0 0) := D4.out.cell 0
  have e1 : w2.cell? ⟨g4, 1, none⟩ = some (.slice none 0 0) := D4.out.cell 1
  have e2 : w2.cell? ⟨g4, 2, none⟩ = some (.slice none 0 0) := D4.out.cell 2
  have z0 := D4.out.frozen 0
  have z1 := D4.out.frozen 1
  have z2 := D4.out.frozen 2
  have HO : Hid (∀ a b c, Only (fun b => b = g4) w2 (((w2.setCell ⟨g4, 0, none⟩ a).setCell ⟨g4, 1, none⟩ b).setCell ⟨g4, 2, none⟩ c)) := fun a b c => (((Only.refl _ _).at_ 0 a).at_ 1 b).at_ 2 c
  have HS : Hid (∀ a b c, Cs (((w2.setCell ⟨g4, 0, none⟩ a).setCell ⟨g4, 1, none⟩ b).setCell ⟨g4, 2, none⟩ c) g4 makeT #[a, b, c]) := fun a b c => ((D4.out.set_ 0 a).set_ 1 b).set_ 2 c
  go_wp2_with (first | (refine Mix.wpList_guarded rfl ?_; (repeat' (first | (refine Mix.lex_quiet0 rfl rfl rfl ?_; intro K hK; go_big_quiet_op; go_big_quiet_on) | (refine Mix.lex_quietG rfl rfl rfl (by with_reducible rfl) rfl rfl ?_; intro K hK; go_big_quiet_op; go_big_quiet_on) | ((first | refine Mix.lex_skipT rfl rfl rfl (by with_reducible rfl) ?_ | refine Mix.lex_skipF rfl rfl rfl (by with_reducible rfl) ?_ | refine Mix.lex_skipU rfl rfl rfl (by with_reducible rfl) ?_); simp only [Act.put, List.setIfInBounds_toArray, List.set_cons_succ, List.set_cons_zero]) | (refine Mix.lex_part rfl rfl rfl rfl (fun hq => ?_) (fun hq => ?_) <;> (fail_if_success (guard_hyp hq :ₛ true = true)) <;> (fail_if_success (guard_hyp hq :ₛ false = false)) <;> first | (exfalso; cases hq; done) | (exfalso; simp only [decide_eq_true_eq, decide_eq_false_iff_not, beq_iff_eq, beq_eq_false_iff_ne, ne_eq, Int.not_lt, Int.not_le] at hq; omega) | simp only [Act.put, List.setIfInBounds_toArray, List.set_cons_succ, List.set_cons_zero]))); all_goals (refine Mix.lex_nil ?_)) | (refine Mix.wp_still (by kernel_rfl) (by kernel_rfl) ?_; (repeat' (first | (refine Mix.lex_quiet0 rfl rfl rfl ?_; intro K hK; go_big_quiet_op; go_big_quiet_on) | (refine Mix.lex_quietG rfl rfl rfl (by with_reducible rfl) rfl rfl ?_; intro K hK; go_big_quiet_op; go_big_quiet_on) | ((first | refine Mix.lex_skipT rfl rfl rfl (by with_reducible rfl) ?_ | refine Mix.lex_skipF rfl rfl rfl (by with_reducible rfl) ?_ | refine Mix.lex_skipU rfl rfl rfl (by with_reducible rfl) ?_); simp only [Act.put, List.setIfInBounds_toArray, List.set_cons_succ, List.set_cons_zero]) | (refine Mix.lex_part rfl rfl rfl rfl (fun hq => ?_) (fun hq => ?_) <;> (fail_if_success (guard_hyp hq :ₛ true = true)) <;> (fail_if_success (guard_hyp hq :ₛ false = false)) <;> first | (exfalso; cases hq; done) | (exfalso; simp only [decide_eq_true_eq, decide_eq_false_iff_not, beq_iff_eq, beq_eq_false_iff_ne, ne_eq, Int.not_lt, Int.not_le] at hq; omega) | simp only [Act.put, List.setIfInBounds_toArray, List.set_cons_succ, List.set_cons_zero]))); all_goals (refine Mix.lex_nil ?_)))
  have hl := load_mk (HS.out (.slice vA m.vars.length vc) (.slice rA m.rules.length rc) (.slice pA m.phony.length pc))
  refine bodyPost_cell (p := 4) (u := 5) (ty := makeT) (ad := ⟨g4, 0, none⟩) rfl rfl rfl hl ?_
  rw [HF2.out]
  exact ⟨⟨vA, vc, rA, rc, pA, pc⟩, rs, rfl, HSt.out.ext (HX.out _ _ X0.out (HO.out _ _ _)), HX.out _ _ X0.out (HO.out _ _ _)⟩
set_option maxRecDepth 100000 in
set_option maxHeartbeats 8000000 in
theorem Ln_cmd0 {w : World} {v : MkV}  {m : Mk} {k : Nat} (hS : MakeS w v [] m) (hf : m.Fit k) (hk : k ≤ 10000) (s : Str) (hs : s.length ≤ 600) (hs0 : 0 < s.length) (k9 : s[0] = 9) :
    Calls Tryd.prog 16 #[mkV v m, S s] w (HdRes w (lineF m s)) := by
  obtain ⟨vA, vc, rA, rc, pA, pc⟩ := v
  obtain ⟨g2, hg2⟩ : ∃ g, g = w.heap.size := ⟨_, rfl⟩
  obtain ⟨w1, hw1⟩ : ∃ u, u = w.alloc (.cells #[.slice vA m.vars.length vc, .slice rA m.rules.length rc, .slice pA m.phony.length pc] makeT) := ⟨_, rfl⟩
  have x1 : Ext w w1 := by rw [hw1]; exact (Only.refl No w).alloc _
  have hc1 : Cs w1 g2 makeT #[.slice vA m.vars.length vc, .slice rA m.rules.length rc, .slice pA m.phony.length pc] := by rw [hw1, hg2]; exact Cs.new _ _ _
  obtain ⟨g4, hg4⟩ : ∃ g, g = w1.heap.size := ⟨_, rfl⟩
  obtain ⟨w2, hw2⟩ : ∃ u, u = w1.alloc (.cells #[.slice none 0 0, .slice none 0 0, .slice none 0 0] makeT) := ⟨_, rfl⟩
  have x2 : Ext w1 w2 := by rw [hw2]; exact (Only.refl No w1).alloc _
  have C4 : Hid (Cs w2 g4 makeT #[.slice none 0 0, .slice none 0 0, .slice none 0 0]) := by rw [hw2, hg4]; exact Cs.new _ _ _
  have CB := Lib.hid (hc1.keep x2 id)
  have hz : g4 = g2 + 1 := by rw [hg4, hg2, hw1]; simp
  have hz2 : w.heap.size ≤ g2 := by omega
  have hz4 : w.heap.size ≤ g4 := by omega
  have hz24 : g2 ≠ g4 := by omega
  have XB := Lib.hid (x1.then_ext x2)
  have HX : Hid (∀ u v', Ext w2 u → Only (fun b => b = g4) u v' → Ext w v') := fun u v' h1 h2 => (XB.out.then_ext h1).trans h2 fun b hb e => by have e : b = g4 := e; omega
  have HSt := Lib.hid hS
  have h := hS.here
  have H := Lib.hid h
  clear hS
  clear x1 x2 hc1
  have hr10 : m.rules.length ≤ 10 := hf.r
  have hv6 : m.vars.length ≤ 6 := hf.v
  have hp10 : m.phony.length ≤ 10000 := by have := hf.p; omega
  have HFt := Lib.hid hf
  have c0 : w2.cell? ⟨g2, 0, none⟩ = some (.slice vA m.vars.length vc) := CB.out.cell 0
  have c1 : w2.cell? ⟨g2, 1, none⟩ = some (.slice rA m.rules.length rc) := CB.out.cell 1
  have c2 : w2.cell? ⟨g2, 2, none⟩ = some (.slice pA m.phony.length pc) := CB.out.cell 2
  have X0 : Hid (Ext w2 w2) := Only.refl _ _
  clear h hf
  obtain ⟨x, hx0⟩ : ∃ x, s[0] = x := ⟨_, rfl⟩
  have hne : (s == ([] : Str)) = false := by
    cases s with
    | nil => simp at hs0
    | cons a l => rfl
  have HF : Hid (lineF m s = if x = 35 then (m, 0) else if x = 9 then cmdF m (s.drop 1) else if Lib.hasPrefix s phonyT = true then phoF m (s.drop 6) else if (Lib.cut s eqT).2.2 = true then varF m (Lib.cut s eqT).1 (Lib.cut s eqT).2.1 else headF m s) := by
    cases s with
    | nil => simp at hs0
    | cons a l =>
      have : a = x := hx0
      subst this
      exact lineF_cons m a l
  have h9 : x = 9 := by rw [← hx0]; exact k9
  have h35 : ¬ x = 35 := by rw [h9]; decide
  have q1' : (((x.toNat : Int)) == 35) = false := (byte_eq' x 35).trans (decide_eq_false h35)
  have HF2 := Lib.hid (HF.out.trans (if_neg h35))
  clear HF h35
  have q2' : (((x.toNat : Int)) == 9) = true := (byte_eq' x 9).trans (decide_eq_true h9)
  have HF3 := Lib.hid (HF2.out.trans (if_pos h9))
  clear h9 HF2
  have hm0 : m.rules = [] := H.out.rm.symm
  have HF4 : Hid (lineF m s = (m, 4)) := by
    rw [Hid, HF3.out, cmdF, hm0]
    rfl
  have hl0 : m.rules.length = 0 := by rw [hm0]; rfl
  have gl0 : (((m.rules.length : Int)) == 0) = true := by rw [hl0]; rfl
  have gl1 : decide (((m.rules.length : Int)) = 0) = true := by rw [hl0]; rfl
  clear hm0 hl0 hr10 HF3
  show Calls _ _ #[.agg #[.slice vA m.vars.length vc, .slice rA m.rules.length rc, .slice pA m.phony.length pc], S s] _ _
  go_enter Tryd.func16, Tryd.ntmps16
  go_upto_region 1 with fail
  rw [← hw1, ← hg2, ← hw2, ← hz]
  clear hw1 hg2 hw2 hg4 hz
  have D2 := Lib.hid (CB.out.keep X0.out id)
  have D4 := Lib.hid (C4.out.keep X0.out id)
  have q0 : w2.cell? ⟨g2, 0, none⟩ = some (.slice vA m.vars.length vc) := D2.out.cell 0
  have q1 : w2.cell? ⟨g2, 1, none⟩ = some (.slice rA m.rules.length rc) := D2.out.cell 1
  have q2 : w2.cell? ⟨g2, 2, none⟩ = some (.slice pA m.phony.length pc) := D2.out.cell 2
  have e0 : w2.cell? ⟨g4, 0, none⟩ = some (.slice none 0 0) := D4.out.cell 0
  have e1 : w2.cell? ⟨g4, 1, none⟩ = some (.slice none 0 0) := D4.out.cell 1
  have e2 : w2.cell? ⟨g4, 2, none⟩ = some (.slice none 0 0) := D4.out.cell 2
  have z0 := D4.out.frozen 0
  have z1 := D4.out.frozen 1
  have z2 := D4.out.frozen 2
  have HO : Hid (∀ a b c, Only (fun b => b = g4) w2 (((w2.setCell ⟨g4, 0, none⟩ a).setCell ⟨g4, 1, none⟩ b).setCell ⟨g4, 2, none⟩ c)) := fun a b c => (((Only.refl _ _).at_ 0 a).at_ 1 b).at_ 2 c
  have HS : Hid (∀ a b c, Cs (((w2.setCell ⟨g4, 0, none⟩ a).setCell ⟨g4, 1, none⟩ b).setCell ⟨g4, 2, none⟩ c) g4 makeT #[a, b, c]) := fun a b c => ((D4.out.set_ 0 a).set_ 1 b).set_ 2 c
  go_wp2_with (first | (refine Mix.wpList_guarded rfl ?_; (repeat' (first | (refine Mix.lex_quiet0 rfl rfl rfl ?_; intro K hK; go_big_quiet_op; go_big_quiet_on) | (refine Mix.lex_quietG rfl rfl rfl (by with_reducible rfl) rfl rfl ?_; intro K hK; go_big_quiet_op; go_big_quiet_on) | ((first | refine Mix.lex_skipT rfl rfl rfl (by with_reducible rfl) ?_ | refine Mix.lex_skipF rfl rfl rfl (by with_reducible rfl) ?_ | refine Mix.lex_skipU rfl rfl rfl (by with_reducible rfl) ?_); simp only [Act.put, List.setIfInBounds_toArray, List.set_cons_succ, List.set_cons_zero]) | (refine Mix.lex_part rfl rfl rfl rfl (fun hq => ?_) (fun hq => ?_) <;> (fail_if_success (guard_hyp hq :ₛ true = true)) <;> (fail_if_success (guard_hyp hq :ₛ false = false)) <;> first | (exfalso; cases hq; done) | (exfalso; simp only [decide_eq_true_eq, decide_eq_false_iff_not, beq_iff_eq, beq_eq_false_iff_ne, ne_eq, Int.not_lt, Int.not_le] at hq; omega) | simp only [Act.put, List.setIfInBounds_toArray, List.set_cons_succ, List.set_cons_zero]))); all_goals (refine Mix.lex_nil ?_)) | (refine Mix.wp_still (by kernel_rfl) (by kernel_rfl) ?_; (repeat' (first | (refine Mix.lex_quiet0 rfl rfl rfl ?_; intro K hK; go_big_quiet_op; go_big_quiet_on) | (refine Mix.lex_quietG rfl rfl rfl (by with_reducible rfl) rfl rfl ?_; intro K hK; go_big_quiet_op; go_big_quiet_on) | ((first | refine Mix.lex_skipT rfl rfl rfl (by with_reducible rfl) ?_ | refine Mix.lex_skipF rfl rfl rfl (by with_reducible rfl) ?_ | refine Mix.lex_skipU rfl rfl rfl (by with_reducible rfl) ?_); simp only [Act.put, List.setIfInBounds_toArray, List.set_cons_succ, List.set_cons_zero]) | (refine Mix.lex_part rfl rfl rfl rfl (fun hq => ?_) (fun hq => ?_) <;> (fail_if_success (guard_hyp hq :ₛ true = true)) <;> (fail_if_success (guard_hyp hq :ₛ false = false)) <;> first | (exfalso; cases hq; done) | (exfalso; simp only [decide_eq_true_eq, decide_eq_false_iff_not, beq_iff_eq, beq_eq_false_iff_ne, ne_eq, Int.not_lt, Int.not_le] at hq; omega) | simp only [Act.put, List.setIfInBounds_toArray, List.set_cons_succ, List.set_cons_zero]))); all_goals (refine Mix.lex_nil ?_)))
  have hl := load_mk (HS.out (.slice vA m.vars.length vc) (.slice rA m.rules.length rc) (.slice pA m.phony.length pc))
  refine bodyPost_cell (p := 4) (u := 5) (ty := makeT) (ad := ⟨g4, 0, none⟩) rfl rfl rfl hl ?_
  rw [HF4.out]
  exact ⟨⟨vA, vc, rA, rc, pA, pc⟩, [], rfl, HSt.out.ext (HX.out _ _ X0.out (HO.out _ _ _)), HX.out _ _ X0.out (HO.out _ _ _)⟩
end Go.Proofs.YtianieboefgjbaaDoor
