/- Put together: Gx2, Rp1, Rp2. -/
import Derived.Test.YtnhaekifcieeoaaGreatDoorPk06
import Derived.Test.YtnhaekifcieeoaaGreatDoorProg
import Derived.Test.YtnhaekifcieeoaaGreatDoorPk02
import Derived.Laws.MakeOwn
import Derived.Test.YtnhaekifcieeoaaGreatDoorPk03
namespace Go.Proofs.YtnhaekifcieeoaaGreatDoor
open Go Go.RowKit
set_option maxRecDepth 100000 in
theorem ex1_c {w : World} {x : RulA × Rul} {b : Nat} {name : Str} (ht : SlR strF w x.1.tA x.2.targets.length x.2.targets) (hl : x.2.targets.length ≤ 1000000) (cn : w.cell? ⟨b, 0, none⟩ = some (S name)) :
    Calls Tryz.prog 116 #[ruleV x, .pointer (some ⟨b, 0, none⟩)] w fun e w' => e = .returned (.bool (inS x.2.targets name)) ∧ Ext w w' := by
  have hb := World.block_lt_of_cell? _ _ cn
  obtain ⟨w1, hw1⟩ : ∃ u, u = w.alloc (.cells #[.slice x.1.tA x.2.targets.length x.1.tc, .slice x.1.nA x.2.needs.length x.1.nc, .slice x.1.cA x.2.cmds.length x.1.cc] ruleT) := ⟨_, rfl⟩
  have X1 : Hid (Ext w w1) := by rw [hw1]; exact (Only.refl No w).alloc _
  have HC := Lib.hid (Contains_c (c := x.1.tc) (ht.ext X1.out) hl name)
  have c1 : w1.cell? ⟨b, 0, none⟩ = some (S name) := (X1.out.cell hb id).trans cn
  have c2 : w1.cell? ⟨w.heap.size, 0, none⟩ = some (.slice x.1.tA x.2.targets.length x.1.tc) := by rw [hw1]; exact (Cs.new w ruleT _).cell 0
  clear ht cn
  go_enter Tryz.func116, Tryz.ntmps116
  go_upto_region 1 with fail
  rw [← hw1]
  clear hw1
  go_wp2_with fail
  refine HC.out.mono ?_
  rintro e u ⟨rfl, hu⟩
  have X2 := Lib.hid (X1.out.then_ext hu)
  clear hu HC
  go_wp2_with fail
  go_ret
  exact ⟨rfl, X2.out⟩
theorem rules_idx {rs : List (RulA × Rul)} {m : Mk} (h : rs.map (·.2) = m.rules) (name : Str) : rs.findIdx? (fun x => inS x.2.targets name) = m.rules.findIdx? (fun r => inS r.targets name) := by
  rw [← h, List.findIdx?_map]
  rfl
set_option maxRecDepth 100000 in
theorem explicit_c {w : World} {v : MkV} {rs : List (RulA × Rul)} {m : Mk} (h : MakeR w v rs m) (hr : m.rules.length ≤ 100) (ht : ∀ r ∈ m.rules, r.targets.length ≤ 1000) (name : Str) :
    Calls Tryz.prog 85 #[mkV v m, S name] w fun e w' => e = .returned (.int .i64 (idxI (m.rules.findIdx? fun r => inS r.targets name))) ∧ Ext w w' := by
  obtain ⟨w1, hw1⟩ : ∃ u, u = w.alloc (.cells #[.slice v.vA m.vars.length v.vc, .slice v.rA m.rules.length v.rc, .slice v.pA m.phony.length v.pc] makeT) := ⟨_, rfl⟩
  obtain ⟨w2, hw2⟩ : ∃ u, u = w1.alloc (.cells #[S name] 9) := ⟨_, rfl⟩
  obtain ⟨b, hb⟩ : ∃ b, b = w1.heap.size := ⟨_, rfl⟩
  have x1 : Ext w w1 := by rw [hw1]; exact (Only.refl No w).alloc _
  have x2 : Ext w1 w2 := by rw [hw2]; exact (Only.refl No w1).alloc _
  have X2 : Hid (Ext w w2) := x1.then_ext x2
  have C2 : Cs w2 b 9 #[S name] := by rw [hw2, hb]; exact Cs.new _ _ _
  have c0 : w2.cell? ⟨w.heap.size, 1, none⟩ = some (.slice v.rA m.rules.length v.rc) := by
    have : Cs w1 w.heap.size makeT #[.slice v.vA m.vars.length v.vc, .slice v.rA m.rules.length v.rc, .slice v.pA m.phony.length v.pc] := by rw [hw1]; exact Cs.new _ _ _
    exact (this.keep x2 id).cell 1
  have HI : Hid (Calls Tryz.prog 115 #[.slice v.rA m.rules.length v.rc, .func (.func 116) #[] #[.pointer (some ⟨b, 0, none⟩)]] w2 fun e w' => e = .returned (.int .i64 (idxI (m.rules.findIdx? fun r => inS r.targets name))) ∧ Ext w2 w') := by
    rw [← rules_idx h.rm name]
    refine IdxRul_c (c := v.rc) (h.fr.ext X2.out) (by omega) (fun x => inS x.2.targets name) #[.pointer (some ⟨b, 0, none⟩)] fun x hx u hu => ?_
    exact ex1_c ((h.rr x hx).1.ext (X2.out.then_ext hu)) (by have := ht x.2 (by rw [← h.rm]; exact List.mem_map_of_mem hx); omega) ((C2.keep hu id).cell 0)
  have hmf : ∀ (fn : Fn) (first cap : Array Value) (w : World), (Instr.makeFunc fn first cap).run Tryz.prog w = .ok (.func fn first cap) w := fun _ _ _ _ => rfl
  have hbw : b = w.heap.size + 1 := by rw [hb, hw1]; simp
  clear h C2 x1 x2
  go_enter Tryz.func85, Tryz.ntmps85
  go_upto_region 1 with fail
  rw [← hw1, ← hw2, ← hbw]
  clear hw1 hw2 hbw hb
  go_wp2_with fail
  refine HI.out.mono ?_
  rintro e u ⟨rfl, hu⟩
  have X3 := Lib.hid (X2.out.then_ext hu)
  clear hu HI
  go_wp2_with fail
  go_ret
  exact ⟨rfl, X3.out⟩
set_option maxRecDepth 100000 in
theorem mk1_c {w : World} {x : RulA × Grp} {b : Nat} {name : Str} (ht : SlR strF w x.1.tA x.2.targets.length x.2.targets) (hl : x.2.targets.length ≤ 1000000) (cn : w.cell? ⟨b, 0, none⟩ = some (S name)) :
    Calls Tryz.prog 41 #[grpV x, .pointer (some ⟨b, 0, none⟩)] w fun e w' => e = .returned (.bool (inS x.2.targets name)) ∧ Ext w w' := by
  have hb := World.block_lt_of_cell? _ _ cn
  obtain ⟨w1, hw1⟩ : ∃ u, u = w.alloc (.cells #[.slice x.1.tA x.2.targets.length x.1.tc, .slice x.1.nA x.2.needs.length x.1.nc, .slice x.1.cA x.2.cmds.length x.1.cc, .bool x.2.phony] grpT) := ⟨_, rfl⟩
  have X1 : Hid (Ext w w1) := by rw [hw1]; exact (Only.refl No w).alloc _
  have HC := Lib.hid (Contains_c (c := x.1.tc) (ht.ext X1.out) hl name)
  have c1 : w1.cell? ⟨b, 0, none⟩ = some (S name) := (X1.out.cell hb id).trans cn
  have c2 : w1.cell? ⟨w.heap.size, 0, none⟩ = some (.slice x.1.tA x.2.targets.length x.1.tc) := by rw [hw1]; exact (Cs.new w grpT _).cell 0
  clear ht cn
  go_enter Tryz.func41, Tryz.ntmps41
  go_upto_region 1 with fail
  rw [← hw1]
  clear hw1
  go_wp2_with fail
  refine HC.out.mono ?_
  rintro e u ⟨rfl, hu⟩
  have X2 := Lib.hid (X1.out.then_ext hu)
  clear hu HC
  go_wp2_with fail
  go_ret
  exact ⟨rfl, X2.out⟩
structure GrpsR (w : World) (A : Option Addr) (os : List (RulA × Grp)) (out : List Grp) : Prop where
  row : SlR grpF w A out.length os
  rr : ∀ x ∈ os, SlR strF w x.1.tA x.2.targets.length x.2.targets ∧ SlR strF w x.1.nA x.2.needs.length x.2.needs ∧ SlR strF w x.1.cA x.2.cmds.length x.2.cmds
  om : os.map (·.2) = out
theorem GrpsR.ext {w u : World} {A : Option Addr} {os : List (RulA × Grp)} {out : List Grp} (h : GrpsR w A os out) (hx : Ext w u) : GrpsR u A os out := ⟨h.row.ext hx, fun x hm => ⟨(h.rr x hm).1.ext hx, (h.rr x hm).2.1.ext hx, (h.rr x hm).2.2.ext hx⟩, h.om⟩
set_option maxRecDepth 100000 in
theorem Maker_c {w : World} {A : Option Addr} {c : Nat} {os : List (RulA × Grp)} {out : List Grp} (h : GrpsR w A os out) (hr : out.length ≤ 100) (ht : ∀ g ∈ out, g.targets.length ≤ 1000) (name : Str) :
    Calls Tryz.prog 15 #[.slice A out.length c, S name] w fun e w' => e = .returned (.int .i64 (idxI (makerF out name))) ∧ Ext w w' := by
  obtain ⟨w1, hw1⟩ : ∃ u, u = w.alloc (.cells #[S name] 9) := ⟨_, rfl⟩
  obtain ⟨b, hb⟩ : ∃ b, b = w.heap.size := ⟨_, rfl⟩
  have X1 : Hid (Ext w w1) := by rw [hw1]; exact (Only.refl No w).alloc _
  have C1 : Cs w1 b 9 #[S name] := by rw [hw1, hb]; exact Cs.new _ _ _
  have HI : Hid (Calls Tryz.prog 40 #[.slice A out.length c, .func (.func 41) #[] #[.pointer (some ⟨b, 0, none⟩)]] w1 fun e w' => e = .returned (.int .i64 (idxI (makerF out name))) ∧ Ext w1 w') := by
    have e : makerF out name = os.findIdx? (fun x => inS x.2.targets name) := by
      unfold makerF
      rw [← h.om, List.findIdx?_map]
      rfl
    rw [e]
    refine IdxGrp_c (c := c) (h.row.ext X1.out) (by omega) (fun x => inS x.2.targets name) #[.pointer (some ⟨b, 0, none⟩)] fun x hx u hu => ?_
    exact mk1_c ((h.rr x hx).1.ext (X1.out.then_ext hu)) (by have := ht x.2 (by rw [← h.om]; exact List.mem_map_of_mem hx); omega) ((C1.keep hu id).cell 0)
  have hmf : ∀ (fn : Fn) (first cap : Array Value) (w : World), (Instr.makeFunc fn first cap).run Tryz.prog w = .ok (.func fn first cap) w := fun _ _ _ _ => rfl
  clear h C1
  go_enter Tryz.func15, Tryz.ntmps15
  go_upto_region 1 with fail
  rw [← hw1, ← hb]
  clear hw1 hb
  go_wp2_with fail
  refine HI.out.mono ?_
  rintro e u ⟨rfl, hu⟩
  have X3 := Lib.hid (X1.out.then_ext hu)
  clear hu HI
  go_wp2_with fail
  go_ret
  exact ⟨rfl, X3.out⟩
abbrev nodT : TypeId := 262
abbrev genT : TypeId := 264
abbrev pnT : TypeId := 259
abbrev rpt (g : Nat) : Value := .pointer (some ⟨g, 0, none⟩)
abbrev nod0 : Array Value := #[S [], .int .i64 0, S [], .pointer none, .slice none 0 0]
abbrev nodZ : Array Value := #[.string ⟨#[]⟩, .int .i64 0, .string ⟨#[]⟩, .pointer none, .slice none 0 0]
abbrev leafA (v : Str) (p : Int) : Array Value := #[S v, .int .i64 p, S [], .pointer none, .slice none 0 0]
set_option maxRecDepth 100000 in
theorem add_leaf {w : World} {b g : Nat} {t : TypeId} (v : Str) (p : Int) (h : Cs w b t nod0) :
    Calls Tryz.prog 196 #[rpt b, S [], S v, .int .i64 p, rpt g] w fun e w' => e = .returned (.tuple #[]) ∧ Cs w' b t (leafA v p) ∧ Only (fun x => x = b) w w' := by
  have c0 : w.cell? ⟨b, 0, none⟩ = some (S []) := h.cell 0
  have c1 : w.cell? ⟨b, 1, none⟩ = some (.int .i64 0) := h.cell 1
  have f0 := h.frozen 0
  have f1 := h.frozen 1
  have HC : Hid (Cs ((w.setCell ⟨b, 0, none⟩ (S v)).setCell ⟨b, 1, none⟩ (.int .i64 p)) b t (leafA v p)) := (h.set_ 0 (S v)).set_ 1 (.int .i64 p)
  have HO : Hid (Only (fun x => x = b) w ((w.setCell ⟨b, 0, none⟩ (S v)).setCell ⟨b, 1, none⟩ (.int .i64 p))) := ((Only.refl _ w).at_ 0 _).at_ 1 _
  clear h
  go_enter Tryz.func196, Tryz.ntmps196
  go_wp2_with fail
  refine bodyPost_ret (results_none rfl _ _ _) rfl ?_
  exact ⟨rfl, HC.out, HO.out⟩
set_option maxRecDepth 100000 in
set_option maxHeartbeats 1000000 in
theorem add_new {w : World} {b g : Nat} {t : TypeId} {c : UInt8} {r : Str} (v : Str) (p : Int) (h : Cs w b t nod0) :
    Calls Tryz.prog 196 #[rpt b, S (c :: r), S v, .int .i64 p, rpt g] w fun e w' => e = .returned (.tuple #[]) ∧ ∃ k, w.heap.size ≤ k ∧ Cs w' b t #[S [], .int .i64 0, S (c :: r), rpt k, .slice none 0 0] ∧ Cs w' k nodT (leafA v p) ∧ Only (fun x => x = b) w w' := by
  have c2 : w.cell? ⟨b, 2, none⟩ = some (S []) := h.cell 2
  have c3 : w.cell? ⟨b, 3, none⟩ = some (.pointer none) := h.cell 3
  have c4 : w.cell? ⟨b, 4, none⟩ = some (.slice none 0 0) := h.cell 4
  have f2 := h.frozen 2
  have f3 := h.frozen 3
  obtain ⟨w1, hw1⟩ : ∃ u, u = w.setCell ⟨b, 2, none⟩ (S (c :: r)) := ⟨_, rfl⟩
  have h1 : Cs w1 b t #[S [], .int .i64 0, S (c :: r), .pointer none, .slice none 0 0] := by rw [hw1]; exact h.set_ 2 _
  have x1 : Only (fun x => x = b) w w1 := by rw [hw1]; exact (Only.refl _ w).at_ 2 _
  obtain ⟨k, hk⟩ : ∃ k, k = w1.heap.size := ⟨_, rfl⟩
  obtain ⟨w2, hw2⟩ : ∃ u, u = (w1.alloc (.cells #[.string ⟨#[]⟩, .int .i64 0, .string ⟨#[]⟩, .pointer none, .slice none 0 0] nodT)).setCell ⟨b, 3, none⟩ (.pointer (some ⟨w1.heap.size, 0, none⟩)) := ⟨_, rfl⟩
  have h2 : Cs w2 b t #[S [], .int .i64 0, S (c :: r), rpt k, .slice none 0 0] := by rw [hw2, hk]; exact (h1.alloc _).set_ 3 _
  have hkb : k ≠ b := by have := h1.lt; omega
  have hk2 : Cs w2 k nodT nod0 := by rw [hw2, hk]; exact (Cs.new w1 nodT nodZ).far (by rw [← hk]; exact hkb) _
  have x2 : Only (fun x => x = b) w w2 := by rw [hw2]; exact (x1.alloc _).at_ 3 _
  have d3 : ∀ o, (w1.alloc o).cell? ⟨b, 3, none⟩ = some (.pointer none) := fun o => (h1.alloc o).cell 3
  have z3 : ∀ o, (w1.alloc o).frozen? ⟨b, 3, none⟩ = false := fun o => (h1.alloc o).frozen 3
  have e3 : w2.cell? ⟨b, 3, none⟩ = some (rpt k) := h2.cell 3
  have HL := Lib.hid (add_leaf (g := g) v p hk2)
  have HX := Lib.hid (And.intro h2 (And.intro x2 x1.size))
  clear h h1 x1 h2 hk2 x2
  go_enter Tryz.func196, Tryz.ntmps196
  go_upto_region 33 with fail
  rw [← hw1]
  clear hw1
  go_upto_region 34 with fail
  rw [← hw2]
  have HK := Lib.hid hk
  clear hw2 c2 c3 d3 hk
  go_wp2_with fail
  refine HL.out.mono ?_
  rintro e w3 ⟨rfl, hl, ho⟩
  go_wp2_with fail
  go_end0
  exact ⟨rfl, k, by rw [HK.out]; exact HX.out.2.2, HX.out.1.keep ho (fun e => hkb e.symm), hl, HX.out.2.1.trans ho fun x hx e => by have e : x = k := e; have := HX.out.2.2; have := HK.out; omega⟩
theorem ptab_info : (Tryz.prog.info? pnT).map (fun i => (i.zero, i.size, i.bytes)) = some (some (.pointer none), 1, 8) := by kernel_rfl
theorem make_ptrs (w : World) : (Instr.makeSlice 260 (.int .i64 5) (.int .i64 5)).run Tryz.prog w =
    .ok (.slice (some ⟨w.heap.size, 0, none⟩) 5 5) (w.alloc (.cells #[.pointer none, .pointer none, .pointer none, .pointer none, .pointer none] pnT)) := by
  obtain ⟨i0, hi, hz, h1, h2⟩ := info_parts ptab_info
  have hr := run_make (P := Tryz.prog) w 260 pnT i0 (.pointer none) Tryz.underlying260 hi hz .i64 .i64 5 5 (by omega) (by omega) (by rw [h2]; omega) (by omega)
  rw [hr, h1, show madeCells (Value.pointer none).cells (Int.toNat 5 * 1) = #[.pointer none, .pointer none, .pointer none, .pointer none, .pointer none] from by kernel_rfl]
  rfl
theorem nil5_at {m : Nat} (h : m < 5) : (#[.pointer none, .pointer none, .pointer none, .pointer none, .pointer none] : Array Value)[m]? = some (.pointer none) := by
  match m, h with
  | 0, _ => rfl
  | 1, _ => rfl
  | 2, _ => rfl
  | 3, _ => rfl
  | 4, _ => rfl
abbrev nils5 : Array Value := #[.pointer none, .pointer none, .pointer none, .pointer none, .pointer none]
set_option maxRecDepth 100000 in
set_option maxHeartbeats 1000000 in
theorem add_split {w : World} {b g k0 mx mc : Nat} {t : TypeId} {gs : Array Value} {x c : UInt8} (v : Str) (p : Int) (hxc : x ≠ c) (hmx : mx < 5) (hmc : mc < 5) (hbg : b ≠ g)
    (h : Cs w b t #[S [], .int .i64 0, S [x], rpt k0, .slice none 0 0]) (hg : Cs w g genT gs) (g5 : gs[5]? = some (.int .i64 5)) (gx : gs[6 + x.toNat]? = some (.int .u8 mx)) (gc : gs[6 + c.toNat]? = some (.int .u8 mc)) :
    Calls Tryz.prog 196 #[rpt b, S [c], S v, .int .i64 p, rpt g] w fun e w' => e = .returned (.tuple #[]) ∧ ∃ k tb, w.heap.size ≤ k ∧ w.heap.size ≤ tb ∧ k ≠ tb ∧
      Cs w' b t #[S [], .int .i64 0, S [], .pointer none, .slice (some ⟨tb, 0, none⟩) 5 5] ∧ Cs w' tb pnT ((nils5.setIfInBounds mx (rpt k0)).setIfInBounds mc (rpt k)) ∧ Cs w' k nodT (leafA v p) ∧ Only (fun x => x = b) w w' := by
  have c2 : w.cell? ⟨b, 2, none⟩ = some (S [x]) := h.cell 2
  have c3 : w.cell? ⟨b, 3, none⟩ = some (rpt k0) := h.cell 3
  have c4 : w.cell? ⟨b, 4, none⟩ = some (.slice none 0 0) := h.cell 4
  have hne : (((x.toNat : Nat) : Int) == ((c.toNat : Nat) : Int)) = false := by
    rw [beq_eq_false_iff_ne]
    intro e
    exact hxc (UInt8.toNat_inj.1 (Int.ofNat.inj e))
  have d2 : ∀ ξ : X w No, ξ.v.cell? ⟨b, 2, none⟩ = some (S [x]) := h.x id 2
  have H := Lib.hid h
  have HG := Lib.hid hg
  clear h hg
  go_enter Tryz.func196, Tryz.ntmps196
  go_wp2_with fail
  go_loopw [10] (fun i wr => i = .int .i64 0 ∧ wr = w) (fun _ _ => 0)
  case atStart => exact ⟨rfl, rfl⟩
  case round =>
    obtain ⟨rfl, rfl⟩ := hrel
    go_upto_region 8 with fail
    (refine Mix.wp_draw [] 100 (Cl (wr) (No)) (by kernel_rfl) (by kernel_rfl) (Cl.drew_ (X.here wr No)) ?_; (repeat' (first | (refine Mix.lex_quiet0 rfl rfl rfl ?_; intro K hK; go_big_quiet_op; go_big_quiet_on) | (refine Mix.lex_quietG rfl rfl rfl (by with_reducible rfl) rfl rfl ?_; intro K hK; go_big_quiet_op; go_big_quiet_on) | ((first | refine Mix.lex_skipT rfl rfl rfl (by with_reducible rfl) ?_ | refine Mix.lex_skipF rfl rfl rfl (by with_reducible rfl) ?_ | refine Mix.lex_skipU rfl rfl rfl (by with_reducible rfl) ?_); simp only [Act.put, List.setIfInBounds_toArray, List.set_cons_succ, List.set_cons_zero]) | (refine Mix.lex_part rfl rfl rfl rfl (fun hq => ?_) (fun hq => ?_) <;> (fail_if_success (guard_hyp hq :ₛ true = true)) <;> (fail_if_success (guard_hyp hq :ₛ false = false)) <;> first | (exfalso; cases hq; done) | (exfalso; simp only [decide_eq_true_eq, decide_eq_false_iff_not, beq_iff_eq, beq_eq_false_iff_ne, ne_eq, Int.not_lt, Int.not_le] at hq; omega) | simp only [Act.put, List.setIfInBounds_toArray, List.set_cons_succ, List.set_cons_zero]))))
    all_goals (refine Mix.lex_nil ?_)
    go_upto_region 17 with fail
    obtain ⟨w1, hw1⟩ : ∃ u, u = (wr.alloc (.cells #[.string ⟨#[]⟩, .int .i64 0, .string ⟨#[]⟩, .pointer none, .slice none 0 0] nodT)).drew := ⟨_, rfl⟩
    obtain ⟨k, hk⟩ : ∃ k, k = wr.heap.size := ⟨_, rfl⟩
    rw [← hw1, ← hk]
    have x1 : Ext wr w1 := by rw [hw1]; exact ((Only.refl No wr).alloc _).drew
    have h1 := H.out.keep x1 id
    have g1 := HG.out.keep x1 id
    have k1 : Cs w1 k nodT nod0 := by rw [hw1, hk]; exact (Cs.new wr nodT nodZ).drew
    have hkb : k ≠ b := by have := H.out.lt; omega
    have e5 : w1.cell? ⟨g, 5, none⟩ = some (.int .i64 5) := (g1.cell 5).trans g5
    have d4 : ∀ o, (w1.alloc o).cell? ⟨b, 4, none⟩ = some (.slice none 0 0) := fun o => (h1.alloc o).cell 4
    have z4 : ∀ o, (w1.alloc o).frozen? ⟨b, 4, none⟩ = false := fun o => (h1.alloc o).frozen 4
    have HK := Lib.hid hk
    have HX1 := Lib.hid (And.intro h1 (And.intro g1 (And.intro k1 x1)))
    clear hw1 hk x1 h1 g1 k1 c2 c3 c4 d2
    have HM := make_ptrs w1
    go_upto_region 18 with fail
    obtain ⟨w2, hw2⟩ : ∃ u, u = (w1.alloc (.cells #[.pointer none, .pointer none, .pointer none, .pointer none, .pointer none] pnT)).setCell ⟨b, 4, none⟩ (.slice (some ⟨w1.heap.size, 0, none⟩) 5 5) := ⟨_, rfl⟩
    obtain ⟨tb, htb⟩ : ∃ k, k = w1.heap.size := ⟨_, rfl⟩
    rw [← hw2]
    have htbb : tb ≠ b := by have := HX1.out.1.lt; omega
    have htbg : tb ≠ g := by have := HX1.out.2.1.lt; omega
    have htbk : k ≠ tb := by have := HX1.out.2.2.1.lt; omega
    have x2 : Only (fun y => y = b) w1 w2 := by rw [hw2]; exact ((Only.refl _ w1).alloc _).at_ 4 _
    have h2 : Cs w2 b t #[S [], .int .i64 0, S [x], rpt k0, .slice (some ⟨tb, 0, none⟩) 5 5] := by rw [hw2, htb]; exact (HX1.out.1.alloc _).set_ 4 _
    have g2 : Cs w2 g genT gs := HX1.out.2.1.keep x2 (fun e => hbg e.symm)
    have k2 : Cs w2 k nodT nod0 := HX1.out.2.2.1.keep x2 hkb
    have t2 : Cs w2 tb pnT nils5 := by rw [hw2, htb]; exact (Cs.new w1 pnT _).far (by rw [← htb]; exact htbb) _
    have HX2 := Lib.hid (And.intro h2 (And.intro g2 (And.intro k2 (And.intro t2 x2))))
    have HTB := Lib.hid htb
    clear hw2 htb HM x2 h2 g2 k2 t2 e5 d4 z4
    have q4 : ∀ ξ : X w2 (fun y => y = tb), ξ.v.cell? ⟨b, 4, none⟩ = some (.slice (some ⟨tb, 0, none⟩) 5 5) := HX2.out.1.x (fun e => htbb e.symm) 4
    have q2 : ∀ ξ : X w2 (fun y => y = tb), ξ.v.cell? ⟨b, 2, none⟩ = some (S [x]) := HX2.out.1.x (fun e => htbb e.symm) 2
    have qx : ∀ ξ : X w2 (fun y => y = tb), ξ.v.cell? ⟨g, 6 + x.toNat, none⟩ = some (.int .u8 mx) := fun ξ => (HX2.out.2.1.x (F := fun y => y = tb) (fun e => htbg e.symm) (6 + x.toNat) ξ).trans gx
    have hx8 : x.toNat < 256 := x.toNat_lt
    have hc8 : c.toNat < 256 := c.toNat_lt
    (refine Mix.wp_draw [16] 16 (Cl (w2) ((fun y => y = tb))) (by kernel_rfl) (by kernel_rfl) (Cl.of (Only.refl _ _).drew) ?_; (repeat' (first | (refine Mix.lex_quiet0 rfl rfl rfl ?_; intro K hK; go_big_quiet_op; go_big_quiet_on) | (refine Mix.lex_quietG rfl rfl rfl (by with_reducible rfl) rfl rfl ?_; intro K hK; go_big_quiet_op; go_big_quiet_on) | ((first | refine Mix.lex_skipT rfl rfl rfl (by with_reducible rfl) ?_ | refine Mix.lex_skipF rfl rfl rfl (by with_reducible rfl) ?_ | refine Mix.lex_skipU rfl rfl rfl (by with_reducible rfl) ?_); simp only [Act.put, List.setIfInBounds_toArray, List.set_cons_succ, List.set_cons_zero]) | (refine Mix.lex_part rfl rfl rfl rfl (fun hq => ?_) (fun hq => ?_) <;> (fail_if_success (guard_hyp hq :ₛ true = true)) <;> (fail_if_success (guard_hyp hq :ₛ false = false)) <;> first | (exfalso; cases hq; done) | (exfalso; simp only [decide_eq_true_eq, decide_eq_false_iff_not, beq_iff_eq, beq_eq_false_iff_ne, ne_eq, Int.not_lt, Int.not_le] at hq; omega) | simp only [Act.put, List.setIfInBounds_toArray, List.set_cons_succ, List.set_cons_zero]))))
    have s1 : w2.drew.cell? ⟨tb, mx, none⟩ = some (.pointer none) := (HX2.out.2.2.2.1.drew.cell mx).trans (nil5_at hmx)
    have s2 : w2.drew.frozen? ⟨tb, mx, none⟩ = false := HX2.out.2.2.2.1.drew.frozen mx
    ((first | refine Mix.lex_goes0 rfl rfl ?_ | refine Mix.lex_goesG rfl rfl rfl (by with_reducible rfl) rfl ?_); intro K hK; go_simp)
    obtain ⟨w3, hw3⟩ : ∃ u, u = (w2.setCell ⟨tb, mx, none⟩ (rpt k0)).drew := ⟨_, rfl⟩
    rw [← hw3]
    refine hK _ _ (fun hne => absurd rfl hne) ?_
    clear hK K
    simp only [Act.put, List.setIfInBounds_toArray, List.set_cons_succ, List.set_cons_zero]
    refine Mix.lex_nil ?_
    have x3 : Only (fun y => y = tb) w2 w3 := by rw [hw3]; exact ((Only.refl _ w2).at_ mx _).drew
    have h3 := HX2.out.1.keep x3 (fun e => htbb e.symm)
    have g3 := HX2.out.2.1.keep x3 (fun e => htbg e.symm)
    have k3 := HX2.out.2.2.1.keep x3 htbk
    have t3 : Cs w3 tb pnT (nils5.setIfInBounds mx (rpt k0)) := by rw [hw3]; exact (HX2.out.2.2.2.1.set_ mx _).drew
    have HX3 := Lib.hid (And.intro h3 (And.intro g3 (And.intro k3 (And.intro t3 x3))))
    clear hw3 x3 h3 g3 k3 t3 q4 q2 qx s1 s2
    have q4 : ∀ ξ : X w3 (fun y => y = tb), ξ.v.cell? ⟨b, 4, none⟩ = some (.slice (some ⟨tb, 0, none⟩) 5 5) := HX3.out.1.x (fun e => htbb e.symm) 4
    have qc : ∀ ξ : X w3 (fun y => y = tb), ξ.v.cell? ⟨g, 6 + c.toNat, none⟩ = some (.int .u8 mc) := fun ξ => (HX3.out.2.1.x (F := fun y => y = tb) (fun e => htbg e.symm) (6 + c.toNat) ξ).trans gc
    go_upto_region 19 with fail
    (refine Mix.wp_draw [13] 13 (Cl (w3) ((fun y => y = tb))) (by kernel_rfl) (by kernel_rfl) (Cl.of (Only.refl _ _).drew) ?_; (repeat' (first | (refine Mix.lex_quiet0 rfl rfl rfl ?_; intro K hK; go_big_quiet_op; go_big_quiet_on) | (refine Mix.lex_quietG rfl rfl rfl (by with_reducible rfl) rfl rfl ?_; intro K hK; go_big_quiet_op; go_big_quiet_on) | ((first | refine Mix.lex_skipT rfl rfl rfl (by with_reducible rfl) ?_ | refine Mix.lex_skipF rfl rfl rfl (by with_reducible rfl) ?_ | refine Mix.lex_skipU rfl rfl rfl (by with_reducible rfl) ?_); simp only [Act.put, List.setIfInBounds_toArray, List.set_cons_succ, List.set_cons_zero]) | (refine Mix.lex_part rfl rfl rfl rfl (fun hq => ?_) (fun hq => ?_) <;> (fail_if_success (guard_hyp hq :ₛ true = true)) <;> (fail_if_success (guard_hyp hq :ₛ false = false)) <;> first | (exfalso; cases hq; done) | (exfalso; simp only [decide_eq_true_eq, decide_eq_false_iff_not, beq_iff_eq, beq_eq_false_iff_ne, ne_eq, Int.not_lt, Int.not_le] at hq; omega) | simp only [Act.put, List.setIfInBounds_toArray, List.set_cons_succ, List.set_cons_zero]))))
    have s1 : ∃ u, w3.drew.cell? ⟨tb, mc, none⟩ = some u := by
      rw [HX3.out.2.2.2.1.drew.cell mc]
      exact ⟨_, Array.getElem?_eq_getElem (by rw [Array.size_setIfInBounds]; exact hmc)⟩
    obtain ⟨u, s1⟩ := s1
    have s2 : w3.drew.frozen? ⟨tb, mc, none⟩ = false := HX3.out.2.2.2.1.drew.frozen mc
    ((first | refine Mix.lex_goes0 rfl rfl ?_ | refine Mix.lex_goesG rfl rfl rfl (by with_reducible rfl) rfl ?_); intro K hK; go_simp)
    obtain ⟨w4, hw4⟩ : ∃ u, u = (w3.setCell ⟨tb, mc, none⟩ (rpt k)).drew := ⟨_, rfl⟩
    rw [← hw4]
    refine hK _ _ (fun hne => absurd rfl hne) ?_
    clear hK K
    simp only [Act.put, List.setIfInBounds_toArray, List.set_cons_succ, List.set_cons_zero]
    refine Mix.lex_nil ?_
    have x4 : Only (fun y => y = tb) w3 w4 := by rw [hw4]; exact ((Only.refl _ w3).at_ mc _).drew
    have h4 := HX3.out.1.keep x4 (fun e => htbb e.symm)
    have k4 := HX3.out.2.2.1.keep x4 htbk
    have t4 : Cs w4 tb pnT ((nils5.setIfInBounds mx (rpt k0)).setIfInBounds mc (rpt k)) := by rw [hw4]; exact (HX3.out.2.2.2.1.set_ mc _).drew
    have e2 : w4.cell? ⟨b, 2, none⟩ = some (S [x]) := h4.cell 2
    have e3 : w4.cell? ⟨b, 3, none⟩ = some (rpt k0) := h4.cell 3
    have z2 := h4.frozen 2
    have z3 := h4.frozen 3
    obtain ⟨w5, hw5⟩ : ∃ u, u = (w4.setCell ⟨b, 2, none⟩ (.string ⟨#[]⟩)).setCell ⟨b, 3, none⟩ (.pointer none) := ⟨_, rfl⟩
    have x5 : Only (fun y => y = b) w4 w5 := by rw [hw5]; exact ((Only.refl _ w4).at_ 2 _).at_ 3 _
    have h5 : Cs w5 b t #[S [], .int .i64 0, S [], .pointer none, .slice (some ⟨tb, 0, none⟩) 5 5] := by rw [hw5]; exact (h4.set_ 2 _).set_ 3 _
    have k5 := k4.keep x5 hkb
    have t5 := t4.keep x5 htbb
    have HL := Lib.hid (add_leaf (g := g) v p k5)
    have HX5 := Lib.hid (And.intro h5 (And.intro t5 (And.intro x4 x5)))
    clear hw4 x4 h4 k4 t4 q4 qc s1 s2 x5 h5 k5 t5
    go_upto_region 22 with fail
    rw [← hw5]
    clear hw5
    go_wp2_with fail
    refine HL.out.mono ?_
    rintro e w6 ⟨rfl, hl, ho⟩
    go_wp2_with fail
    go_end0
    have hs1 := HX1.out.2.2.2.size
    have hk0 := HK.out
    have htb := HTB.out
    refine ⟨rfl, k, tb, by omega, by omega, htbk, HX5.out.1.keep ho (fun e => hkb e.symm), HX5.out.2.1.keep ho (fun e => htbk e.symm), hl, ?_⟩
    have o1 : Only (fun y => y = b) wr w2 := HX1.out.2.2.2.any.trans HX2.out.2.2.2.2 fun y hy e => e
    have o2 : Only (fun y => y = b) wr w3 := o1.trans HX3.out.2.2.2.2 fun y hy e => by have e : y = tb := e; omega
    have o3 : Only (fun y => y = b) wr w4 := o2.trans HX5.out.2.2.1 fun y hy e => by have e : y = tb := e; omega
    have o4 : Only (fun y => y = b) wr w5 := o3.trans HX5.out.2.2.2 fun y hy e => e
    exact o4.trans ho fun y hy e => by have e : y = k := e; omega
set_option maxRecDepth 100000 in
set_option maxHeartbeats 1000000 in
theorem add_old {w : World} {b g tb n m : Nat} {t : TypeId} {bs ts gs : Array Value} {c : UInt8} {r : Str} (v : Str) (p : Int) {Q : World → Prop} (hm : m < 5)
    (h : Cs w b t bs) (h2 : bs[2]? = some (S [])) (h4 : bs[4]? = some (.slice (some ⟨tb, 0, none⟩) 5 5)) (ht : Cs w tb pnT ts) (hn : ts[m]? = some (rpt n)) (hg : Cs w g genT gs) (gc : gs[6 + c.toNat]? = some (.int .u8 m))
    (hrec : ∀ u, Ext w u → Calls Tryz.prog 196 #[rpt n, S r, S v, .int .i64 p, rpt g] u fun e w' => e = .returned (.tuple #[]) ∧ Q w') :
    Calls Tryz.prog 196 #[rpt b, S (c :: r), S v, .int .i64 p, rpt g] w fun e w' => e = .returned (.tuple #[]) ∧ Q w' := by
  have c1 : w.cell? ⟨b, 2, none⟩ = some (S []) := (h.cell 2).trans h2
  have c4 : ∀ ξ : X w No, ξ.v.cell? ⟨b, 4, none⟩ = some (.slice (some ⟨tb, 0, none⟩) 5 5) := fun ξ => (h.x (F := No) id 4 ξ).trans h4
  have cm : ∀ ξ : X w No, ξ.v.cell? ⟨g, 6 + c.toNat, none⟩ = some (.int .u8 m) := fun ξ => (hg.x (F := No) id (6 + c.toNat) ξ).trans gc
  have hc8 : c.toNat < 256 := c.toNat_lt
  have cn : ∀ ξ : X w No, ξ.v.cell? ⟨tb, m, none⟩ = some (rpt n) := fun ξ => (ht.x (F := No) id m ξ).trans hn
  have c4' : w.cell? ⟨b, 4, none⟩ = some (.slice (some ⟨tb, 0, none⟩) 5 5) := c4 (X.here w No)
  have cn' : w.cell? ⟨tb, m, none⟩ = some (rpt n) := cn (X.here w No)
  have HR := Lib.hid hrec
  clear h h2 h4 ht hn hg gc hrec
  go_enter Tryz.func196, Tryz.ntmps196
  go_upto_region 28 with fail
  (refine Mix.wp_draw [] 100 (Cl (w) (No)) (by kernel_rfl) (by kernel_rfl) (Cl.drew_ (X.here w No)) ?_; (repeat' (first | (refine Mix.lex_quiet0 rfl rfl rfl ?_; intro K hK; go_big_quiet_op; go_big_quiet_on) | (refine Mix.lex_quietG rfl rfl rfl (by with_reducible rfl) rfl rfl ?_; intro K hK; go_big_quiet_op; go_big_quiet_on) | ((first | refine Mix.lex_skipT rfl rfl rfl (by with_reducible rfl) ?_ | refine Mix.lex_skipF rfl rfl rfl (by with_reducible rfl) ?_ | refine Mix.lex_skipU rfl rfl rfl (by with_reducible rfl) ?_); simp only [Act.put, List.setIfInBounds_toArray, List.set_cons_succ, List.set_cons_zero]) | (refine Mix.lex_part rfl rfl rfl rfl (fun hq => ?_) (fun hq => ?_) <;> (fail_if_success (guard_hyp hq :ₛ true = true)) <;> (fail_if_success (guard_hyp hq :ₛ false = false)) <;> first | (exfalso; cases hq; done) | (exfalso; simp only [decide_eq_true_eq, decide_eq_false_iff_not, beq_iff_eq, beq_eq_false_iff_ne, ne_eq, Int.not_lt, Int.not_le] at hq; omega) | simp only [Act.put, List.setIfInBounds_toArray, List.set_cons_succ, List.set_cons_zero]))))
  all_goals (refine Mix.lex_nil ?_)
  go_upto_region 31 with fail
  (refine Mix.wp_draw [12] 12 (Cl (w) (No)) (by kernel_rfl) (by kernel_rfl) (Cl.of (Only.refl No w).drew.drew) ?_; (repeat' (first | (refine Mix.lex_quiet0 rfl rfl rfl ?_; intro K hK; go_big_quiet_op; go_big_quiet_on) | (refine Mix.lex_quietG rfl rfl rfl (by with_reducible rfl) rfl rfl ?_; intro K hK; go_big_quiet_op; go_big_quiet_on) | ((first | refine Mix.lex_skipT rfl rfl rfl (by with_reducible rfl) ?_ | refine Mix.lex_skipF rfl rfl rfl (by with_reducible rfl) ?_ | refine Mix.lex_skipU rfl rfl rfl (by with_reducible rfl) ?_); simp only [Act.put, List.setIfInBounds_toArray, List.set_cons_succ, List.set_cons_zero]) | (refine Mix.lex_part rfl rfl rfl rfl (fun hq => ?_) (fun hq => ?_) <;> (fail_if_success (guard_hyp hq :ₛ true = true)) <;> (fail_if_success (guard_hyp hq :ₛ false = false)) <;> first | (exfalso; cases hq; done) | (exfalso; simp only [decide_eq_true_eq, decide_eq_false_iff_not, beq_iff_eq, beq_eq_false_iff_ne, ne_eq, Int.not_lt, Int.not_le] at hq; omega) | simp only [Act.put, List.setIfInBounds_toArray, List.set_cons_succ, List.set_cons_zero]))))
  ((first | refine Mix.lex_goes0 rfl rfl ?_ | refine Mix.lex_goesG rfl rfl rfl (by with_reducible rfl) rfl ?_); intro K hK; go_simp)
  refine (HR.out _ (Only.refl No w).drew.drew).mono ?_
  rintro e w' ⟨rfl, hQ⟩
  refine ⟨_, rfl, hK _ _ (fun hne => absurd rfl hne) ?_⟩
  clear hK K
  simp only [Act.put, List.setIfInBounds_toArray, List.set_cons_succ, List.set_cons_zero]
  refine Mix.lex_nil ?_
  go_wp2_with fail
  go_end0
  exact ⟨rfl, hQ⟩
set_option maxRecDepth 100000 in
set_option maxHeartbeats 1000000 in
theorem add_nil {w : World} {b g tb m : Nat} {t : TypeId} {bs ts gs : Array Value} {c : UInt8} {r : Str} (v : Str) (p : Int) {Q : World → Prop} (hm : m < 5)
    (h : Cs w b t bs) (h2 : bs[2]? = some (S [])) (h4 : bs[4]? = some (.slice (some ⟨tb, 0, none⟩) 5 5)) (ht : Cs w tb pnT ts) (hn : ts[m]? = some (.pointer none)) (hbt : b ≠ tb) (hg : Cs w g genT gs) (gc : gs[6 + c.toNat]? = some (.int .u8 m))
    (hrec : ∀ u k, w.heap.size ≤ k → Only (fun x => x = tb) w u → Cs u tb pnT (ts.setIfInBounds m (rpt k)) → Cs u k nodT nod0 → Calls Tryz.prog 196 #[rpt k, S r, S v, .int .i64 p, rpt g] u fun e w' => e = .returned (.tuple #[]) ∧ Q w') :
    Calls Tryz.prog 196 #[rpt b, S (c :: r), S v, .int .i64 p, rpt g] w fun e w' => e = .returned (.tuple #[]) ∧ Q w' := by
  have c1 : w.cell? ⟨b, 2, none⟩ = some (S []) := (h.cell 2).trans h2
  have c4 : ∀ ξ : X w No, ξ.v.cell? ⟨b, 4, none⟩ = some (.slice (some ⟨tb, 0, none⟩) 5 5) := fun ξ => (h.x (F := No) id 4 ξ).trans h4
  have cm : ∀ ξ : X w No, ξ.v.cell? ⟨g, 6 + c.toNat, none⟩ = some (.int .u8 m) := fun ξ => (hg.x (F := No) id (6 + c.toNat) ξ).trans gc
  have hc8 : c.toNat < 256 := c.toNat_lt
  have cn : w.cell? ⟨tb, m, none⟩ = some (.pointer none) := (ht.cell m).trans hn
  have c4' : w.cell? ⟨b, 4, none⟩ = some (.slice (some ⟨tb, 0, none⟩) 5 5) := c4 (X.here w No)
  have HR := Lib.hid hrec
  go_enter Tryz.func196, Tryz.ntmps196
  go_upto_region 28 with fail
  (refine Mix.wp_draw [] 100 (Cl (w) (No)) (by kernel_rfl) (by kernel_rfl) (Cl.drew_ (X.here w No)) ?_; (repeat' (first | (refine Mix.lex_quiet0 rfl rfl rfl ?_; intro K hK; go_big_quiet_op; go_big_quiet_on) | (refine Mix.lex_quietG rfl rfl rfl (by with_reducible rfl) rfl rfl ?_; intro K hK; go_big_quiet_op; go_big_quiet_on) | ((first | refine Mix.lex_skipT rfl rfl rfl (by with_reducible rfl) ?_ | refine Mix.lex_skipF rfl rfl rfl (by with_reducible rfl) ?_ | refine Mix.lex_skipU rfl rfl rfl (by with_reducible rfl) ?_); simp only [Act.put, List.setIfInBounds_toArray, List.set_cons_succ, List.set_cons_zero]) | (refine Mix.lex_part rfl rfl rfl rfl (fun hq => ?_) (fun hq => ?_) <;> (fail_if_success (guard_hyp hq :ₛ true = true)) <;> (fail_if_success (guard_hyp hq :ₛ false = false)) <;> first | (exfalso; cases hq; done) | (exfalso; simp only [decide_eq_true_eq, decide_eq_false_iff_not, beq_iff_eq, beq_eq_false_iff_ne, ne_eq, Int.not_lt, Int.not_le] at hq; omega) | simp only [Act.put, List.setIfInBounds_toArray, List.set_cons_succ, List.set_cons_zero]))))
  all_goals (refine Mix.lex_nil ?_)
  obtain ⟨w1, hw1⟩ : ∃ u, u = w.drew := ⟨_, rfl⟩
  have x1 : Ext w w1 := by rw [hw1]; exact (Only.refl No w).drew
  have t1 := ht.keep x1 id
  have b1 := h.keep x1 id
  rw [← hw1]
  have e4 : ∀ o, (w1.alloc o).cell? ⟨b, 4, none⟩ = some (.slice (some ⟨tb, 0, none⟩) 5 5) := fun o => ((b1.alloc o).cell 4).trans h4
  have f4 : w1.cell? ⟨b, 4, none⟩ = some (.slice (some ⟨tb, 0, none⟩) 5 5) := (b1.cell 4).trans h4
  have em : ∀ o, (w1.alloc o).cell? ⟨tb, m, none⟩ = some (.pointer none) := fun o => ((t1.alloc o).cell m).trans hn
  have fm : w1.cell? ⟨tb, m, none⟩ = some (.pointer none) := (t1.cell m).trans hn
  have zm : ∀ o, (w1.alloc o).frozen? ⟨tb, m, none⟩ = false := fun o => (t1.alloc o).frozen m
  have HH := Lib.hid (And.intro b1 (And.intro t1 (And.intro x1 (And.intro h4 hn))))
  have HG := Lib.hid gc
  clear hw1 h h2 h4 ht hn hg gc hrec x1 t1 b1 c1 c4 cm cn c4'
  go_upto_region 31 with fail
  obtain ⟨w2, hw2⟩ : ∃ u, u = (w1.alloc (.cells #[.string ⟨#[]⟩, .int .i64 0, .string ⟨#[]⟩, .pointer none, .slice none 0 0] nodT)).setCell ⟨tb, m, none⟩ (.pointer (some ⟨w1.heap.size, 0, none⟩)) := ⟨_, rfl⟩
  obtain ⟨k, hk⟩ : ∃ k, k = w1.heap.size := ⟨_, rfl⟩
  rw [← hw2]
  have hkt : k ≠ tb := by have := HH.out.2.1.lt; omega
  have x2 : Only (fun x => x = tb) w w2 := by rw [hw2]; exact ((HH.out.2.2.1.any).alloc _).at_ m _
  have b2 : Cs w2 b t bs := by rw [hw2]; exact (HH.out.1.alloc _).far hbt _
  have t2 : Cs w2 tb pnT (ts.setIfInBounds m (rpt k)) := by rw [hw2, hk]; exact (HH.out.2.1.alloc _).set_ m _
  have k2 : Cs w2 k nodT nod0 := by rw [hw2, hk]; exact (Cs.new w1 nodT nodZ).far (by rw [← hk]; exact hkt) _
  have hts : (ts.setIfInBounds m (rpt k))[m]? = some (rpt k) := by
    have hz : m < ts.size := (Array.getElem?_eq_some_iff.1 HH.out.2.2.2.2).1
    simp [Array.getElem?_setIfInBounds, hz]
  have HK := Lib.hid hk
  have hwk : w.heap.size ≤ k := by rw [HK.out]; exact HH.out.2.2.1.size
  clear hw2 hk e4 f4 em fm zm
  have c4 : ∀ ξ : X w2 No, ξ.v.cell? ⟨b, 4, none⟩ = some (.slice (some ⟨tb, 0, none⟩) 5 5) := fun ξ => (b2.x (F := No) id 4 ξ).trans HH.out.2.2.2.1
  have cn : ∀ ξ : X w2 No, ξ.v.cell? ⟨tb, m, none⟩ = some (rpt k) := fun ξ => (t2.x (F := No) id m ξ).trans hts
  (refine Mix.wp_draw [12] 12 (Cl (w2) (No)) (by kernel_rfl) (by kernel_rfl) (Cl.of (Only.refl No w2).drew) ?_; (repeat' (first | (refine Mix.lex_quiet0 rfl rfl rfl ?_; intro K hK; go_big_quiet_op; go_big_quiet_on) | (refine Mix.lex_quietG rfl rfl rfl (by with_reducible rfl) rfl rfl ?_; intro K hK; go_big_quiet_op; go_big_quiet_on) | ((first | refine Mix.lex_skipT rfl rfl rfl (by with_reducible rfl) ?_ | refine Mix.lex_skipF rfl rfl rfl (by with_reducible rfl) ?_ | refine Mix.lex_skipU rfl rfl rfl (by with_reducible rfl) ?_); simp only [Act.put, List.setIfInBounds_toArray, List.set_cons_succ, List.set_cons_zero]) | (refine Mix.lex_part rfl rfl rfl rfl (fun hq => ?_) (fun hq => ?_) <;> (fail_if_success (guard_hyp hq :ₛ true = true)) <;> (fail_if_success (guard_hyp hq :ₛ false = false)) <;> first | (exfalso; cases hq; done) | (exfalso; simp only [decide_eq_true_eq, decide_eq_false_iff_not, beq_iff_eq, beq_eq_false_iff_ne, ne_eq, Int.not_lt, Int.not_le] at hq; omega) | simp only [Act.put, List.setIfInBounds_toArray, List.set_cons_succ, List.set_cons_zero]))))
  ((first | refine Mix.lex_goes0 rfl rfl ?_ | refine Mix.lex_goesG rfl rfl rfl (by with_reducible rfl) rfl ?_); intro K hK; go_simp)
  refine (HR.out _ k hwk x2.drew t2.drew k2.drew).mono ?_
  rintro e w' ⟨rfl, hQ⟩
  refine ⟨_, rfl, hK _ _ (fun hne => absurd rfl hne) ?_⟩
  clear hK K
  simp only [Act.put, List.setIfInBounds_toArray, List.set_cons_succ, List.set_cons_zero]
  refine Mix.lex_nil ?_
  go_wp2_with fail
  go_end0
  exact ⟨rfl, hQ⟩
structure TrB (w u : World) (g t0 : Nat) (gs ts : Array Value) : Prop where
  gen : Cs u g genT gs
  tab : Cs u t0 pnT ts
  x : Ext w u
  hg : w.heap.size ≤ g
  ht : w.heap.size ≤ t0
  ne : g ≠ t0
structure GsOk (gs : Array Value) (t0 : Nat) : Prop where
  p2 : gs[2]? = some (S [])
  p1 : gs[1]? = some (.int .i64 0)
  p4 : gs[4]? = some (.slice (some ⟨t0, 0, none⟩) 5 5)
  p5 : gs[5]? = some (.int .i64 5)
  m36 : gs[6 + (36 : UInt8).toNat]? = some (.int .u8 0)
  m42 : gs[6 + (42 : UInt8).toNat]? = some (.int .u8 1)
  m60 : gs[6 + (60 : UInt8).toNat]? = some (.int .u8 2)
  m64 : gs[6 + (64 : UInt8).toNat]? = some (.int .u8 3)
  m94 : gs[6 + (94 : UInt8).toNat]? = some (.int .u8 4)
  mo : ∀ c : UInt8, c ≠ 36 → c ≠ 42 → c ≠ 60 → c ≠ 64 → c ≠ 94 → gs[6 + c.toNat]? = some (.int .u8 5)
structure Tr1 (w u : World) (g t0 : Nat) (gs : Array Value) (a : Str) (n1 n2 : Nat) : Prop where
  b : TrB w u g t0 gs #[rpt n1, .pointer none, .pointer none, .pointer none, .pointer none]
  c1 : Cs u n1 nodT #[S [], .int .i64 0, S [64], rpt n2, .slice none 0 0]
  c2 : Cs u n2 nodT (leafA a 8)
  h1 : w.heap.size ≤ n1
  h2 : w.heap.size ≤ n2
  n12 : n1 ≠ n2
structure Tr2 (w u : World) (g t0 : Nat) (gs ts : Array Value) (n1 t1 : Nat) : Prop where
  b : TrB w u g t0 gs #[rpt n1, .pointer none, .pointer none, .pointer none, .pointer none]
  c1 : Cs u n1 nodT #[S [], .int .i64 0, S [], .pointer none, .slice (some ⟨t1, 0, none⟩) 5 5]
  ct : Cs u t1 pnT ts
  h1 : w.heap.size ≤ n1
  h3 : w.heap.size ≤ t1
  t10 : t1 ≠ t0
structure Leaf (w u : World) (n1 n : Nat) (v : Str) (p : Int) : Prop where
  c : Cs u n nodT (leafA v p)
  h : w.heap.size ≤ n
  ne : n1 ≠ n
def TrSt (w : World) (g t0 : Nat) (gs : Array Value) (a b c d : Str) : Nat → World → Prop
  | 0, u => TrB w u g t0 gs nils5
  | 1, u => ∃ n1 n2, Tr1 w u g t0 gs a n1 n2
  | 2, u => ∃ n1 t1 n2 n3, Tr2 w u g t0 gs #[.pointer none, .pointer none, rpt n3, rpt n2, .pointer none] n1 t1 ∧ Leaf w u n1 n2 a 8 ∧ Leaf w u n1 n3 b 6
  | 3, u => ∃ n1 t1 n2 n3 n4, Tr2 w u g t0 gs #[.pointer none, .pointer none, rpt n3, rpt n2, rpt n4] n1 t1 ∧ Leaf w u n1 n2 a 8 ∧ Leaf w u n1 n3 b 6 ∧ Leaf w u n1 n4 c 4
  | _, u => ∃ n1 t1 n2 n3 n4 n5, Tr2 w u g t0 gs #[.pointer none, rpt n5, rpt n3, rpt n2, rpt n4] n1 t1 ∧ Leaf w u n1 n2 a 8 ∧ Leaf w u n1 n3 b 6 ∧ Leaf w u n1 n4 c 4 ∧ Leaf w u n1 n5 d 2
section
variable {w u v : World} {g t0 n1 n2 t1 : Nat} {gs ts : Array Value} {a : Str} {F : Nat → Prop}
theorem TrB.only (h : TrB w u g t0 gs ts) (hx : Only F u v) (hF : ∀ b, F b → w.heap.size ≤ b) (h1 : ¬ F g) (h2 : ¬ F t0) : TrB w v g t0 gs ts :=
  ⟨h.gen.keep hx h1, h.tab.keep hx h2, h.x.trans hx fun b hb e => by have := hF b e; omega, h.hg, h.ht, h.ne⟩
theorem Leaf.only {n : Nat} {x : Str} {p : Int} (h : Leaf w u n1 n x p) (hx : Only F u v) (h1 : ¬ F n) : Leaf w v n1 n x p := ⟨h.c.keep hx h1, h.h, h.ne⟩
theorem Tr1.only (h : Tr1 w u g t0 gs a n1 n2) (hx : Ext u v) : Tr1 w v g t0 gs a n1 n2 := ⟨h.b.only hx (fun _ e => e.elim) id id, h.c1.keep hx id, h.c2.keep hx id, h.h1, h.h2, h.n12⟩
theorem Tr2.only (h : Tr2 w u g t0 gs ts n1 t1) (hx : Ext u v) : Tr2 w v g t0 gs ts n1 t1 := ⟨h.b.only hx (fun _ e => e.elim) id id, h.c1.keep hx id, h.ct.keep hx id, h.h1, h.h3, h.t10⟩
end
theorem TrSt.ext {w u v : World} {g t0 : Nat} {gs : Array Value} {a b c d : Str} {j : Nat} (h : TrSt w g t0 gs a b c d j u) (hx : Ext u v) : TrSt w g t0 gs a b c d j v := by
  unfold TrSt at h ⊢
  split at h
  · exact h.only hx (fun _ e => e.elim) id id
  · obtain ⟨n1, n2, h⟩ := h; exact ⟨n1, n2, h.only hx⟩
  · obtain ⟨n1, t1, n2, n3, h, h2, h3⟩ := h; exact ⟨n1, t1, n2, n3, h.only hx, h2.only hx id, h3.only hx id⟩
  · obtain ⟨n1, t1, n2, n3, n4, h, h2, h3, h4⟩ := h; exact ⟨n1, t1, n2, n3, n4, h.only hx, h2.only hx id, h3.only hx id, h4.only hx id⟩
  · obtain ⟨n1, t1, n2, n3, n4, n5, h, h2, h3, h4, h5⟩ := h; exact ⟨n1, t1, n2, n3, n4, n5, h.only hx, h2.only hx id, h3.only hx id, h4.only hx id, h5.only hx id⟩
def keyAt : Nat → Str
  | 0 => [36, 64]
  | 1 => [36, 60]
  | 2 => [36, 94]
  | _ => [36, 42]
def valAt (a b c d : Str) : Nat → Str
  | 0 => a
  | 1 => b
  | 2 => c
  | _ => d
theorem add_step {w : World} {g t0 : Nat} {gs : Array Value} {a b c d : Str} (hgs : GsOk gs t0) : ∀ (j : Nat), j < 4 → ∀ u, TrSt w g t0 gs a b c d j u → ∀ v, v = valAt a b c d j →
    Calls Tryz.prog 196 #[rpt g, S (keyAt j), S v, .int .i64 (8 - 2 * (j : Int)), rpt g] u fun e u' => e = .returned (.tuple #[]) ∧ TrSt w g t0 gs a b c d (j + 1) u'
  | 0, _, u, h, v, hv => by
    have h : TrB w u g t0 gs nils5 := h
    have hv : v = a := hv
    subst hv
    refine add_nil (b := g) (g := g) (tb := t0) (m := 0) (c := 36) (r := [64]) v 8 (by omega) h.gen hgs.p2 hgs.p4 h.tab rfl h.ne h.gen hgs.m36 fun u1 k hk hx ht hn => ?_
    have hB := h.x.size
    refine (add_new (g := g) (c := 64) (r := []) v 8 hn).mono ?_
    rintro e u2 ⟨rfl, n2, hn2, c1, c2, ho⟩
    have hgk : g ≠ k := by have := h.gen.lt; omega
    have htk : t0 ≠ k := by have := h.tab.lt; omega
    refine ⟨rfl, k, n2, ⟨⟨(h.gen.keep hx (fun e => h.ne e)).keep ho hgk, (show Cs u1 t0 pnT _ from ht).keep ho htk, (h.x.trans hx fun b hb e => by have e : b = t0 := e; have := h.ht; omega).trans ho fun b hb e => by have e : b = k := e; omega, h.hg, h.ht, h.ne⟩, c1, c2, by omega, by have := hx.size; omega, ?_⟩⟩
    have := hn.lt
    omega
  | 1, _, u, h, v, hv => by
    obtain ⟨n1, n2, h⟩ : ∃ n1 n2, Tr1 w u g t0 gs a n1 n2 := h
    have hv : v = b := hv
    subst hv
    refine add_old (b := g) (g := g) (tb := t0) (n := n1) (m := 0) (c := 36) (r := [60]) v 6 (by omega) h.b.gen hgs.p2 hgs.p4 h.b.tab rfl h.b.gen hgs.m36 fun u1 hx => ?_
    have h := h.only hx
    have hgn : n1 ≠ g := (h.c1.ne_ h.b.gen (by decide))
    refine (add_split (b := n1) (g := g) (k0 := n2) (mx := 3) (mc := 2) (x := 64) (c := 60) v 6 (by decide) (by omega) (by omega) hgn h.c1 h.b.gen hgs.p5 hgs.m64 hgs.m60).mono ?_
    rintro e u2 ⟨rfl, k, tb, hk, htb, hkt, c1, c2, c3, ho⟩
    have hB := h.b.x.size
    have h0n : t0 ≠ n1 := (h.b.tab.ne_ h.c1 (by decide))
    refine ⟨rfl, n1, tb, n2, k, ⟨h.b.only ho (fun b e => by have e : b = n1 := e; have := h.h1; omega) (fun e => hgn e.symm) h0n, c1, c2, h.h1, by omega, ?_⟩, ⟨h.c2.keep ho (fun e => h.n12 e.symm), h.h2, h.n12⟩, ⟨c3, by omega, ?_⟩⟩
    · have := h.b.tab.lt; omega
    · have := h.c1.lt; omega
  | 2, _, u, h, v, hv => by
    obtain ⟨n1, t1, n2, n3, h, l2, l3⟩ : ∃ n1 t1 n2 n3, Tr2 w u g t0 gs #[.pointer none, .pointer none, rpt n3, rpt n2, .pointer none] n1 t1 ∧ Leaf w u n1 n2 a 8 ∧ Leaf w u n1 n3 b 6 := h
    have hv : v = c := hv
    subst hv
    refine add_old (b := g) (g := g) (tb := t0) (n := n1) (m := 0) (c := 36) (r := [94]) v 4 (by omega) h.b.gen hgs.p2 hgs.p4 h.b.tab rfl h.b.gen hgs.m36 fun u1 hx => ?_
    have h := h.only hx
    have l2 := l2.only hx id
    have l3 := l3.only hx id
    have hnt : n1 ≠ t1 := (h.c1.ne_ h.ct (by decide))
    refine add_nil (b := n1) (g := g) (tb := t1) (m := 4) (c := 94) (r := []) v 4 (by omega) h.c1 rfl rfl h.ct rfl hnt h.b.gen hgs.m94 fun u2 k hk hx2 ht hn => ?_
    have hB := h.b.x.size
    refine (add_leaf (g := g) v 4 hn).mono ?_
    rintro e u3 ⟨rfl, c3, ho⟩
    have hnt2 : ∀ n, Cs u1 n nodT (leafA a 8) ∨ Cs u1 n nodT (leafA b 6) → n ≠ t1 := fun n e => e.elim (fun e => e.ne_ h.ct (by decide)) fun e => e.ne_ h.ct (by decide)
    have lk : ∀ n, n < u1.heap.size → n ≠ k := fun n e => by omega
    have hg1 : g ≠ t1 := h.b.gen.ne_ h.ct (by decide)
    refine ⟨rfl, n1, t1, n2, n3, k, ⟨(h.b.only hx2 (fun b e => by have e : b = t1 := e; have := h.h3; omega) hg1 (fun e => h.t10 e.symm)).only ho (fun b e => by have e : b = k := e; omega) (lk _ h.b.gen.lt) (lk _ h.b.tab.lt), (h.c1.keep hx2 hnt).keep ho (lk _ h.c1.lt), (show Cs u2 t1 pnT _ from ht).keep ho (lk _ h.ct.lt), h.h1, h.h3, h.t10⟩,
      (l2.only hx2 (hnt2 _ (.inl l2.c))).only ho (lk _ l2.c.lt), (l3.only hx2 (hnt2 _ (.inr l3.c))).only ho (lk _ l3.c.lt), ⟨c3, by omega, (lk _ h.c1.lt)⟩⟩
  | 3, _, u, h, v, hv => by
    obtain ⟨n1, t1, n2, n3, n4, h, l2, l3, l4⟩ : ∃ n1 t1 n2 n3 n4, Tr2 w u g t0 gs #[.pointer none, .pointer none, rpt n3, rpt n2, rpt n4] n1 t1 ∧ Leaf w u n1 n2 a 8 ∧ Leaf w u n1 n3 b 6 ∧ Leaf w u n1 n4 c 4 := h
    have hv : v = d := hv
    subst hv
    refine add_old (b := g) (g := g) (tb := t0) (n := n1) (m := 0) (c := 36) (r := [42]) v 2 (by omega) h.b.gen hgs.p2 hgs.p4 h.b.tab rfl h.b.gen hgs.m36 fun u1 hx => ?_
    have h := h.only hx
    have l2 := l2.only hx id
    have l3 := l3.only hx id
    have l4 := l4.only hx id
    have hnt : n1 ≠ t1 := (h.c1.ne_ h.ct (by decide))
    refine add_nil (b := n1) (g := g) (tb := t1) (m := 1) (c := 42) (r := []) v 2 (by omega) h.c1 rfl rfl h.ct rfl hnt h.b.gen hgs.m42 fun u2 k hk hx2 ht hn => ?_
    have hB := h.b.x.size
    refine (add_leaf (g := g) v 2 hn).mono ?_
    rintro e u3 ⟨rfl, c3, ho⟩
    have hnt2 : ∀ n x (p : Int), Cs u1 n nodT (leafA x p) → n ≠ t1 := fun n x p e => e.ne_ h.ct (by decide)
    have lk : ∀ n, n < u1.heap.size → n ≠ k := fun n e => by omega
    have hg1 : g ≠ t1 := h.b.gen.ne_ h.ct (by decide)
    refine ⟨rfl, n1, t1, n2, n3, n4, k, ⟨(h.b.only hx2 (fun b e => by have e : b = t1 := e; have := h.h3; omega) hg1 (fun e => h.t10 e.symm)).only ho (fun b e => by have e : b = k := e; omega) (lk _ h.b.gen.lt) (lk _ h.b.tab.lt), (h.c1.keep hx2 hnt).keep ho (lk _ h.c1.lt), (show Cs u2 t1 pnT _ from ht).keep ho (lk _ h.ct.lt), h.h1, h.h3, h.t10⟩,
      (l2.only hx2 (hnt2 _ _ _ l2.c)).only ho (lk _ l2.c.lt), (l3.only hx2 (hnt2 _ _ _ l3.c)).only ho (lk _ l3.c.lt), (l4.only hx2 (hnt2 _ _ _ l4.c)).only ho (lk _ l4.c.lt), ⟨c3, by omega, (lk _ h.c1.lt)⟩⟩
  | j + 4, hj, _, _, _, _ => absurd hj (by omega)
end Go.Proofs.YtnhaekifcieeoaaGreatDoor
