/- Put together: Gx2. -/
import Derived.Test.YtnhaekifcieeoaaGreatDoorMa19
/- graph.explicit, graph.Maker. -/
namespace Go.Proofs.YtnhaekifcieeoaaGreatDoor
open Go Go.RowKit
set_option maxRecDepth 100000 in
theorem ex1_c {w : World} {x : RulA × Rul} {b : Nat} {name : Str} (ht : SlR strF w x.1.tA x.2.targets.length x.2.targets) (hl : x.2.targets.length ≤ 1000000) (cn : w.cell? ⟨b, 0, none⟩ = some (S name)) :
    Calls Tryz.prog 116 #[ruleV x, .pointer (some ⟨b, 0, none⟩)] w fun e w' => e = .returned (.bool (inS x.2.targets name)) ∧ Ext w w' := by
  have hb := World.block_lt_of_cell? _ _ cn
  obtain ⟨w1, hw1⟩ : ∃ u, u = w.alloc (.cells #[.slice x.1.tA x.2.targets.length x.1.tc, .slice x.1.nA x.2.needs.length x.1.nc, .slice x.1.cA x.2.cmds.length x.1.cc] ruleT) := ⟨_, rfl⟩
  have X1 : Hid (Ext w w1) := by rw [hw1]; exact (Only.refl No w).alloc _
  have HC := Lib.hid (Contains_c (c := x.1.tc) (ht.ext X1.out) hl name)
  have c1 : w1.cell? ⟨b, 0, none⟩ = some (S name) := (X1.out.cell hb id).trans cn
  have c2 : w1.cell? ⟨w.heap.size, 0, none⟩ = some (.slice x.1.tA x.2.targets.length x.1.tc) := by rw [hw1]; exact (Cs.new w ruleT _).cell 0
  clear ht cn
  go_enter Tryz.func116, Tryz.ntmps116
  go_upto_region 1 with fail
  rw [← hw1]
  clear hw1
  go_wp2_with (first | ((first | refine Mix.wpList_guarded rfl ?_ | refine Mix.wp_still (by kernel_rfl) (by kernel_rfl) ?_); (repeat' (first | (refine Mix.lex_quiet0 rfl rfl rfl ?_; intro K hK; go_big_quiet_op; go_big_quiet_on) | (refine Mix.lex_quietG rfl rfl rfl (by with_reducible rfl) rfl rfl ?_; intro K hK; go_big_quiet_op; go_big_quiet_on) | ((first | refine Mix.lex_skipT rfl rfl rfl (by with_reducible rfl) ?_ | refine Mix.lex_skipF rfl rfl rfl (by with_reducible rfl) ?_ | refine Mix.lex_skipU rfl rfl rfl (by with_reducible rfl) ?_); simp only [Act.put, List.setIfInBounds_toArray, List.set_cons_succ, List.set_cons_zero]) | (refine Mix.lex_part rfl rfl rfl rfl (fun hq => ?_) (fun hq => ?_) <;> (fail_if_success (guard_hyp hq :ₛ true = true)) <;> (fail_if_success (guard_hyp hq :ₛ false = false)) <;> first | (exfalso; cases hq; done) | (exfalso; simp only [decide_eq_true_eq, decide_eq_false_iff_not, beq_iff_eq, beq_eq_false_iff_ne, ne_eq, Int.not_lt, Int.not_le] at hq; omega) | simp only [Act.put, List.setIfInBounds_toArray, List.set_cons_succ, List.set_cons_zero]))); all_goals (refine Mix.lex_nil ?_)))
  refine HC.out.mono ?_
  rintro e u ⟨rfl, hu⟩
  have X2 := Lib.hid (X1.out.then_ext hu)
  clear hu HC
  go_wp2_with (first | ((first | refine Mix.wpList_guarded rfl ?_ | refine Mix.wp_still (by kernel_rfl) (by kernel_rfl) ?_); (repeat' (first | (refine Mix.lex_quiet0 rfl rfl rfl ?_; intro K hK; go_big_quiet_op; go_big_quiet_on) | (refine Mix.lex_quietG rfl rfl rfl (by with_reducible rfl) rfl rfl ?_; intro K hK; go_big_quiet_op; go_big_quiet_on) | ((first | refine Mix.lex_skipT rfl rfl rfl (by with_reducible rfl) ?_ | refine Mix.lex_skipF rfl rfl rfl (by with_reducible rfl) ?_ | refine Mix.lex_skipU rfl rfl rfl (by with_reducible rfl) ?_); simp only [Act.put, List.setIfInBounds_toArray, List.set_cons_succ, List.set_cons_zero]) | (refine Mix.lex_part rfl rfl rfl rfl (fun hq => ?_) (fun hq => ?_) <;> (fail_if_success (guard_hyp hq :ₛ true = true)) <;> (fail_if_success (guard_hyp hq :ₛ false = false)) <;> first | (exfalso; cases hq; done) | (exfalso; simp only [decide_eq_true_eq, decide_eq_false_iff_not, beq_iff_eq, beq_eq_false_iff_ne, ne_eq, Int.not_lt, Int.not_le] at hq; omega) | simp only [Act.put, List.setIfInBounds_toArray, List.set_cons_succ, List.set_cons_zero]))); all_goals (refine Mix.lex_nil ?_)))
  go_ret
  exact ⟨rfl, X2.out⟩
theorem rules_idx {rs : List (RulA × Rul)} {m : Mk} (h : rs.map (·.2) = m.rules) (name : Str) : rs.findIdx? (fun x => inS x.2.targets name) = m.rules.findIdx? (fun r => inS r.targets name) := by
  rw [← h, List.findIdx?_map]
  rfl
set_option maxRecDepth 100000 in
theorem explicit_c {w : World} {v : MkV} {rs : List (RulA × Rul)} {m : Mk} (h : MakeR w v rs m) (hr : m.rules.length ≤ 100) (ht : ∀ r ∈ m.rules, r.targets.length ≤ 1000) (name : Str) :
    Calls Tryz.prog 85 #[mkV v m, S name] w fun e w' => e = .returned (.int .i64 (idxI (m.rules.findIdx? fun r => inS r.targets name))) ∧ Ext w w' := by
  obtain ⟨w1, hw1⟩ : ∃ u, u = w.alloc (.cells #[.slice v.vA m.vars.length v.vc, .slice v.rA m.rules.length v.rc, .slice v.pA m.phony.length v.pc] makeT) := ⟨_, rfl⟩
  obtain ⟨w2, hw2⟩ : ∃ u, u = w1.alloc (.cells #[S name] 9) := ⟨_, rfl⟩
  obtain ⟨b, hb⟩ : ∃ b, b = w1.heap.size := ⟨_, rfl⟩
  have x1 : Ext w w1 := by rw [hw1]; exact (Only.refl No w).alloc _
  have x2 : Ext w1 w2 := by rw [hw2]; exact (Only.refl No w1).alloc _
  have X2 : Hid (Ext w w2) := x1.then_ext x2
  have C2 : Cs w2 b 9 #[S name] := by rw [hw2, hb]; exact Cs.new _ _ _
  have c0 : w2.cell? ⟨w.heap.size, 1, none⟩ = some (.slice v.rA m.rules.length v.rc) := by
    have : Cs w1 w.heap.size makeT #[.slice v.vA m.vars.length v.vc, .slice v.rA m.rules.length v.rc, .slice v.pA m.phony.length v.pc] := by rw [hw1]; exact Cs.new _ _ _
    exact (this.keep x2 id).cell 1
  have HI : Hid (Calls Tryz.prog 115 #[.slice v.rA m.rules.length v.rc, .func (.func 116) #[] #[.pointer (some ⟨b, 0, none⟩)]] w2 fun e w' => e = .returned (.int .i64 (idxI (m.rules.findIdx? fun r => inS r.targets name))) ∧ Ext w2 w') := by
    rw [← rules_idx h.rm name]
    refine IdxRul_c (c := v.rc) (h.fr.ext X2.out) (by omega) (fun x => inS x.2.targets name) #[.pointer (some ⟨b, 0, none⟩)] fun x hx u hu => ?_
    exact ex1_c ((h.rr x hx).1.ext (X2.out.then_ext hu)) (by have := ht x.2 (by rw [← h.rm]; exact List.mem_map_of_mem hx); omega) ((C2.keep hu id).cell 0)
  have hmf : ∀ (fn : Fn) (first cap : Array Value) (w : World), (Instr.makeFunc fn first cap).run Tryz.prog w = .ok (.func fn first cap) w := fun _ _ _ _ => rfl
  have hbw : b = w.heap.size + 1 := by rw [hb, hw1]; simp
  clear h C2 x1 x2
  go_enter Tryz.func85, Tryz.ntmps85
  go_upto_region 1 with fail
  rw [← hw1, ← hw2, ← hbw]
  clear hw1 hw2 hbw hb
  go_wp2_with (first | ((first | refine Mix.wpList_guarded rfl ?_ | refine Mix.wp_still (by kernel_rfl) (by kernel_rfl) ?_); (repeat' (first | (refine Mix.lex_quiet0 rfl rfl rfl ?_; intro K hK; go_big_quiet_op; go_big_quiet_on) | (refine Mix.lex_quietG rfl rfl rfl (by with_reducible rfl) rfl rfl ?_; intro K hK; go_big_quiet_op; go_big_quiet_on) | ((first | refine Mix.lex_skipT rfl rfl rfl (by with_reducible rfl) ?_ | refine Mix.lex_skipF rfl rfl rfl (by with_reducible rfl) ?_ | refine Mix.lex_skipU rfl rfl rfl (by with_reducible rfl) ?_); simp only [Act.put, List.setIfInBounds_toArray, List.set_cons_succ, List.set_cons_zero]) | (refine Mix.lex_part rfl rfl rfl rfl (fun hq => ?_) (fun hq => ?_) <;> (fail_if_success (guard_hyp hq :ₛ true = true)) <;> (fail_if_success (guard_hyp hq :ₛ false = false)) <;> first | (exfalso; cases hq; done) | (exfalso; simp only [decide_eq_true_eq, decide_eq_false_iff_not, beq_iff_eq, beq_eq_false_iff_ne, ne_eq, Int.not_lt, Int.not_le] at hq; omega) | simp only [Act.put, List.setIfInBounds_toArray, List.set_cons_succ, List.set_cons_zero]))); all_goals (refine Mix.lex_nil ?_)))
  refine HI.out.mono ?_
  rintro e u ⟨rfl, hu⟩
  have X3 := Lib.hid (X2.out.then_ext hu)
  clear hu HI
  go_wp2_with (first | ((first | refine Mix.wpList_guarded rfl ?_ | refine Mix.wp_still (by kernel_rfl) (by kernel_rfl) ?_); (repeat' (first | (refine Mix.lex_quiet0 rfl rfl rfl ?_; intro K hK; go_big_quiet_op; go_big_quiet_on) | (refine Mix.lex_quietG rfl rfl rfl (by with_reducible rfl) rfl rfl ?_; intro K hK; go_big_quiet_op; go_big_quiet_on) | ((first | refine Mix.lex_skipT rfl rfl rfl (by with_reducible rfl) ?_ | refine Mix.lex_skipF rfl rfl rfl (by with_reducible rfl) ?_ | refine Mix.lex_skipU rfl rfl rfl (by with_reducible rfl) ?_); simp only [Act.put, List.setIfInBounds_toArray, List.set_cons_succ, List.set_cons_zero]) | (refine Mix.lex_part rfl rfl rfl rfl (fun hq => ?_) (fun hq => ?_) <;> (fail_if_success (guard_hyp hq :ₛ true = true)) <;> (fail_if_success (guard_hyp hq :ₛ false = false)) <;> first | (exfalso; cases hq; done) | (exfalso; simp only [decide_eq_true_eq, decide_eq_false_iff_not, beq_iff_eq, beq_eq_false_iff_ne, ne_eq, Int.not_lt, Int.not_le] at hq; omega) | simp only [Act.put, List.setIfInBounds_toArray, List.set_cons_succ, List.set_cons_zero]))); all_goals (refine Mix.lex_nil ?_)))
  go_ret
  exact ⟨rfl, X3.out⟩
set_option maxRecDepth 100000 in
theorem mk1_c {w : World} {x : RulA × Grp} {b : Nat} {name : Str} (ht : SlR strF w x.1.tA x.2.targets.length x.2.targets) (hl : x.2.targets.length ≤ 1000000) (cn : w.cell? ⟨b, 0, none⟩ = some (S name)) :
    Calls Tryz.prog 41 #[grpV x, .pointer (some ⟨b, 0, none⟩)] w fun e w' => e = .returned (.bool (inS x.2.targets name)) ∧ Ext w w' := by
  have hb := World.block_lt_of_cell? _ _ cn
  obtain ⟨w1, hw1⟩ : ∃ u, u = w.alloc (.cells #[.slice x.1.tA x.2.targets.length x.1.tc, .slice x.1.nA x.2.needs.length x.1.nc, .slice x.1.cA x.2.cmds.length x.1.cc, .bool x.2.phony] grpT) := ⟨_, rfl⟩
  have X1 : Hid (Ext w w1) := by rw [hw1]; exact (Only.refl No w).alloc _
  have HC := Lib.hid (Contains_c (c := x.1.tc) (ht.ext X1.out) hl name)
  have c1 : w1.cell? ⟨b, 0, none⟩ = some (S name) := (X1.out.cell hb id).trans cn
  have c2 : w1.cell? ⟨w.heap.size, 0, none⟩ = some (.slice x.1.tA x.2.targets.length x.1.tc) := by rw [hw1]; exact (Cs.new w grpT _).cell 0
  clear ht cn
  go_enter Tryz.func41, Tryz.ntmps41
  go_upto_region 1 with fail
  rw [← hw1]
  clear hw1
  go_wp2_with (first | ((first | refine Mix.wpList_guarded rfl ?_ | refine Mix.wp_still (by kernel_rfl) (by kernel_rfl) ?_); (repeat' (first | (refine Mix.lex_quiet0 rfl rfl rfl ?_; intro K hK; go_big_quiet_op; go_big_quiet_on) | (refine Mix.lex_quietG rfl rfl rfl (by with_reducible rfl) rfl rfl ?_; intro K hK; go_big_quiet_op; go_big_quiet_on) | ((first | refine Mix.lex_skipT rfl rfl rfl (by with_reducible rfl) ?_ | refine Mix.lex_skipF rfl rfl rfl (by with_reducible rfl) ?_ | refine Mix.lex_skipU rfl rfl rfl (by with_reducible rfl) ?_); simp only [Act.put, List.setIfInBounds_toArray, List.set_cons_succ, List.set_cons_zero]) | (refine Mix.lex_part rfl rfl rfl rfl (fun hq => ?_) (fun hq => ?_) <;> (fail_if_success (guard_hyp hq :ₛ true = true)) <;> (fail_if_success (guard_hyp hq :ₛ false = false)) <;> first | (exfalso; cases hq; done) | (exfalso; simp only [decide_eq_true_eq, decide_eq_false_iff_not, beq_iff_eq, beq_eq_false_iff_ne, ne_eq, Int.not_lt, Int.not_le] at hq; omega) | simp only [Act.put, List.setIfInBounds_toArray, List.set_cons_succ, List.set_cons_zero]))); all_goals (refine Mix.lex_nil ?_)))
  refine HC.out.mono ?_
  rintro e u ⟨rfl, hu⟩
  have X2 := Lib.hid (X1.out.then_ext hu)
  clear hu HC
  go_wp2_with (first | ((first | refine Mix.wpList_guarded rfl ?_ | refine Mix.wp_still (by kernel_rfl) (by kernel_rfl) ?_); (repeat' (first | (refine Mix.lex_quiet0 rfl rfl rfl ?_; intro K hK; go_big_quiet_op; go_big_quiet_on) | (refine Mix.lex_quietG rfl rfl rfl (by with_reducible rfl) rfl rfl ?_; intro K hK; go_big_quiet_op; go_big_quiet_on) | ((first | refine Mix.lex_skipT rfl rfl rfl (by with_reducible rfl) ?_ | refine Mix.lex_skipF rfl rfl rfl (by with_reducible rfl) ?_ | refine Mix.lex_skipU rfl rfl rfl (by with_reducible rfl) ?_); simp only [Act.put, List.setIfInBounds_toArray, List.set_cons_succ, List.set_cons_zero]) | (refine Mix.lex_part rfl rfl rfl rfl (fun hq => ?_) (fun hq => ?_) <;> (fail_if_success (guard_hyp hq :ₛ true = true)) <;> (fail_if_success (guard_hyp hq :ₛ false = false)) <;> first | (exfalso; cases hq; done) | (exfalso; simp only [decide_eq_true_eq, decide_eq_false_iff_not, beq_iff_eq, beq_eq_false_iff_ne, ne_eq, Int.not_lt, Int.not_le] at hq; omega) | simp only [Act.put, List.setIfInBounds_toArray, List.set_cons_succ, List.set_cons_zero]))); all_goals (refine Mix.lex_nil ?_)))
  go_ret
  exact ⟨rfl, X2.out⟩
/-- Groups in memory. -/
structure GrpsR (w : World) (A : Option Addr) (os : List (RulA × Grp)) (out : List Grp) : Prop where
  row : SlR grpF w A out.length os
  rr : ∀ x ∈ os, SlR strF w x.1.tA x.2.targets.length x.2.targets ∧ SlR strF w x.1.nA x.2.needs.length x.2.needs ∧ SlR strF w x.1.cA x.2.cmds.length x.2.cmds
  om : os.map (·.2) = out
theorem GrpsR.ext {w u : World} {A : Option Addr} {os : List (RulA × Grp)} {out : List Grp} (h : GrpsR w A os out) (hx : Ext w u) : GrpsR u A os out := ⟨h.row.ext hx, fun x hm => ⟨(h.rr x hm).1.ext hx, (h.rr x hm).2.1.ext hx, (h.rr x hm).2.2.ext hx⟩, h.om⟩
set_option maxRecDepth 100000 in
theorem Maker_c {w : World} {A : Option Addr} {c : Nat} {os : List (RulA × Grp)} {out : List Grp} (h : GrpsR w A os out) (hr : out.length ≤ 100) (ht : ∀ g ∈ out, g.targets.length ≤ 1000) (name : Str) :
    Calls Tryz.prog 15 #[.slice A out.length c, S name] w fun e w' => e = .returned (.int .i64 (idxI (makerF out name))) ∧ Ext w w' := by
  obtain ⟨w1, hw1⟩ : ∃ u, u = w.alloc (.cells #[S name] 9) := ⟨_, rfl⟩
  obtain ⟨b, hb⟩ : ∃ b, b = w.heap.size := ⟨_, rfl⟩
  have X1 : Hid (Ext w w1) := by rw [hw1]; exact (Only.refl No w).alloc _
  have C1 : Cs w1 b 9 #[S name] := by rw [hw1, hb]; exact Cs.new _ _ _
  have HI : Hid (Calls Tryz.prog 40 #[.slice A out.length c, .func (.func 41) #[] #[.pointer (some ⟨b, 0, none⟩)]] w1 fun e w' => e = .returned (.int .i64 (idxI (makerF out name))) ∧ Ext w1 w') := by
    have e : makerF out name = os.findIdx? (fun x => inS x.2.targets name) := by
      unfold makerF
      rw [← h.om, List.findIdx?_map]
      rfl
    rw [e]
    refine IdxGrp_c (c := c) (h.row.ext X1.out) (by omega) (fun x => inS x.2.targets name) #[.pointer (some ⟨b, 0, none⟩)] fun x hx u hu => ?_
    exact mk1_c ((h.rr x hx).1.ext (X1.out.then_ext hu)) (by have := ht x.2 (by rw [← h.om]; exact List.mem_map_of_mem hx); omega) ((C1.keep hu id).cell 0)
  have hmf : ∀ (fn : Fn) (first cap : Array Value) (w : World), (Instr.makeFunc fn first cap).run Tryz.prog w = .ok (.func fn first cap) w := fun _ _ _ _ => rfl
  clear h C1
  go_enter Tryz.func15, Tryz.ntmps15
  go_upto_region 1 with fail
  rw [← hw1, ← hb]
  clear hw1 hb
  go_wp2_with (first | ((first | refine Mix.wpList_guarded rfl ?_ | refine Mix.wp_still (by kernel_rfl) (by kernel_rfl) ?_); (repeat' (first | (refine Mix.lex_quiet0 rfl rfl rfl ?_; intro K hK; go_big_quiet_op; go_big_quiet_on) | (refine Mix.lex_quietG rfl rfl rfl (by with_reducible rfl) rfl rfl ?_; intro K hK; go_big_quiet_op; go_big_quiet_on) | ((first | refine Mix.lex_skipT rfl rfl rfl (by with_reducible rfl) ?_ | refine Mix.lex_skipF rfl rfl rfl (by with_reducible rfl) ?_ | refine Mix.lex_skipU rfl rfl rfl (by with_reducible rfl) ?_); simp only [Act.put, List.setIfInBounds_toArray, List.set_cons_succ, List.set_cons_zero]) | (refine Mix.lex_part rfl rfl rfl rfl (fun hq => ?_) (fun hq => ?_) <;> (fail_if_success (guard_hyp hq :ₛ true = true)) <;> (fail_if_success (guard_hyp hq :ₛ false = false)) <;> first | (exfalso; cases hq; done) | (exfalso; simp only [decide_eq_true_eq, decide_eq_false_iff_not, beq_iff_eq, beq_eq_false_iff_ne, ne_eq, Int.not_lt, Int.not_le] at hq; omega) | simp only [Act.put, List.setIfInBounds_toArray, List.set_cons_succ, List.set_cons_zero]))); all_goals (refine Mix.lex_nil ?_)))
  refine HI.out.mono ?_
  rintro e u ⟨rfl, hu⟩
  have X3 := Lib.hid (X1.out.then_ext hu)
  clear hu HI
  go_wp2_with (first | ((first | refine Mix.wpList_guarded rfl ?_ | refine Mix.wp_still (by kernel_rfl) (by kernel_rfl) ?_); (repeat' (first | (refine Mix.lex_quiet0 rfl rfl rfl ?_; intro K hK; go_big_quiet_op; go_big_quiet_on) | (refine Mix.lex_quietG rfl rfl rfl (by with_reducible rfl) rfl rfl ?_; intro K hK; go_big_quiet_op; go_big_quiet_on) | ((first | refine Mix.lex_skipT rfl rfl rfl (by with_reducible rfl) ?_ | refine Mix.lex_skipF rfl rfl rfl (by with_reducible rfl) ?_ | refine Mix.lex_skipU rfl rfl rfl (by with_reducible rfl) ?_); simp only [Act.put, List.setIfInBounds_toArray, List.set_cons_succ, List.set_cons_zero]) | (refine Mix.lex_part rfl rfl rfl rfl (fun hq => ?_) (fun hq => ?_) <;> (fail_if_success (guard_hyp hq :ₛ true = true)) <;> (fail_if_success (guard_hyp hq :ₛ false = false)) <;> first | (exfalso; cases hq; done) | (exfalso; simp only [decide_eq_true_eq, decide_eq_false_iff_not, beq_iff_eq, beq_eq_false_iff_ne, ne_eq, Int.not_lt, Int.not_le] at hq; omega) | simp only [Act.put, List.setIfInBounds_toArray, List.set_cons_succ, List.set_cons_zero]))); all_goals (refine Mix.lex_nil ?_)))
  go_ret
  exact ⟨rfl, X3.out⟩
end Go.Proofs.YtnhaekifcieeoaaGreatDoor
