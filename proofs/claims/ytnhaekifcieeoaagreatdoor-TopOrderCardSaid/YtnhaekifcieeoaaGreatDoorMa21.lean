/- Put together: Rp1. -/
import Derived.Test.YtnhaekifcieeoaaGreatDoorProg
import Derived.Test.YtnhaekifcieeoaaGreatDoorMa07
import Derived.Test.YtnhaekifcieeoaaGreatDoorMa04
import Derived.Laws.MakeOwn
import Derived.Test.YtnhaekifcieeoaaGreatDoorMa11
/- strings.Replacer: nodes are added. -/
namespace Go.Proofs.YtnhaekifcieeoaaGreatDoor
open Go Go.RowKit
abbrev nodT : TypeId := 262
abbrev genT : TypeId := 264
abbrev pnT : TypeId := 259
abbrev rpt (g : Nat) : Value := .pointer (some ⟨g, 0, none⟩)
abbrev nod0 : Array Value := #[S [], .int .i64 0, S [], .pointer none, .slice none 0 0]
abbrev nodZ : Array Value := #[.string ⟨#[]⟩, .int .i64 0, .string ⟨#[]⟩, .pointer none, .slice none 0 0]
abbrev leafA (v : Str) (p : Int) : Array Value := #[S v, .int .i64 p, S [], .pointer none, .slice none 0 0]
set_option maxRecDepth 100000 in
theorem add_leaf {w : World} {b g : Nat} {t : TypeId} (v : Str) (p : Int) (h : Cs w b t nod0) :
    Calls Tryz.prog 196 #[rpt b, S [], S v, .int .i64 p, rpt g] w fun e w' => e = .returned (.tuple #[]) ∧ Cs w' b t (leafA v p) ∧ Only (fun x => x = b) w w' := by
  have c0 : w.cell? ⟨b, 0, none⟩ = some (S []) := h.cell 0
  have c1 : w.cell? ⟨b, 1, none⟩ = some (.int .i64 0) := h.cell 1
  have f0 := h.frozen 0
  have f1 := h.frozen 1
  have HC : Hid (Cs ((w.setCell ⟨b, 0, none⟩ (S v)).setCell ⟨b, 1, none⟩ (.int .i64 p)) b t (leafA v p)) := (h.set_ 0 (S v)).set_ 1 (.int .i64 p)
  have HO : Hid (Only (fun x => x = b) w ((w.setCell ⟨b, 0, none⟩ (S v)).setCell ⟨b, 1, none⟩ (.int .i64 p))) := ((Only.refl _ w).at_ 0 _).at_ 1 _
  clear h
  go_enter Tryz.func196, Tryz.ntmps196
  go_wp2_with (first | ((first | refine Mix.wpList_guarded rfl ?_ | refine Mix.wp_still (by kernel_rfl) (by kernel_rfl) ?_); (repeat' (first | (refine Mix.lex_quiet0 rfl rfl rfl ?_; intro K hK; go_big_quiet_op; go_big_quiet_on) | (refine Mix.lex_quietG rfl rfl rfl (by with_reducible rfl) rfl rfl ?_; intro K hK; go_big_quiet_op; go_big_quiet_on) | ((first | refine Mix.lex_skipT rfl rfl rfl (by with_reducible rfl) ?_ | refine Mix.lex_skipF rfl rfl rfl (by with_reducible rfl) ?_ | refine Mix.lex_skipU rfl rfl rfl (by with_reducible rfl) ?_); simp only [Act.put, List.setIfInBounds_toArray, List.set_cons_succ, List.set_cons_zero]) | (refine Mix.lex_part rfl rfl rfl rfl (fun hq => ?_) (fun hq => ?_) <;> (fail_if_success (guard_hyp hq :ₛ true = true)) <;> (fail_if_success (guard_hyp hq :ₛ false = false)) <;> first | (exfalso; cases hq; done) | (exfalso; simp only [decide_eq_true_eq, decide_eq_false_iff_not, beq_iff_eq, beq_eq_false_iff_ne, ne_eq, Int.not_lt, Int.not_le] at hq; omega) | simp only [Act.put, List.setIfInBounds_toArray, List.set_cons_succ, List.set_cons_zero]))); all_goals (refine Mix.lex_nil ?_)))
  refine bodyPost_ret (results_none rfl _ _ _) rfl ?_
  exact ⟨rfl, HC.out, HO.out⟩
set_option maxRecDepth 100000 in
set_option maxHeartbeats 1000000 in
theorem add_new {w : World} {b g : Nat} {t : TypeId} {c : UInt8} {r : Str} (v : Str) (p : Int) (h : Cs w b t nod0) :
    Calls Tryz.prog 196 #[rpt b, S (c :: r), S v, .int .i64 p, rpt g] w fun e w' => e = .returned (.tuple #[]) ∧ ∃ k, w.heap.size ≤ k ∧ Cs w' b t #[S [], .int .i64 0, S (c :: r), rpt k, .slice none 0 0] ∧ Cs w' k nodT (leafA v p) ∧ Only (fun x => x = b) w w' := by
  have c2 : w.cell? ⟨b, 2, none⟩ = some (S []) := h.cell 2
  have c3 : w.cell? ⟨b, 3, none⟩ = some (.pointer none) := h.cell 3
  have c4 : w.cell? ⟨b, 4, none⟩ = some (.slice none 0 0) := h.cell 4
  have f2 := h.frozen 2
  have f3 := h.frozen 3
  obtain ⟨w1, hw1⟩ : ∃ u, u = w.setCell ⟨b, 2, none⟩ (S (c :: r)) := ⟨_, rfl⟩
  have h1 : Cs w1 b t #[S [], .int .i64 0, S (c :: r), .pointer none, .slice none 0 0] := by rw [hw1]; exact h.set_ 2 _
  have x1 : Only (fun x => x = b) w w1 := by rw [hw1]; exact (Only.refl _ w).at_ 2 _
  obtain ⟨k, hk⟩ : ∃ k, k = w1.heap.size := ⟨_, rfl⟩
  obtain ⟨w2, hw2⟩ : ∃ u, u = (w1.alloc (.cells #[.string ⟨#[]⟩, .int .i64 0, .string ⟨#[]⟩, .pointer none, .slice none 0 0] nodT)).setCell ⟨b, 3, none⟩ (.pointer (some ⟨w1.heap.size, 0, none⟩)) := ⟨_, rfl⟩
  have h2 : Cs w2 b t #[S [], .int .i64 0, S (c :: r), rpt k, .slice none 0 0] := by rw [hw2, hk]; exact (h1.alloc _).set_ 3 _
  have hkb : k ≠ b := by have := h1.lt; omega
  have hk2 : Cs w2 k nodT nod0 := by rw [hw2, hk]; exact (Cs.new w1 nodT nodZ).far (by rw [← hk]; exact hkb) _
  have x2 : Only (fun x => x = b) w w2 := by rw [hw2]; exact (x1.alloc _).at_ 3 _
  have d3 : ∀ o, (w1.alloc o).cell? ⟨b, 3, none⟩ = some (.pointer none) := fun o => (h1.alloc o).cell 3
  have z3 : ∀ o, (w1.alloc o).frozen? ⟨b, 3, none⟩ = false := fun o => (h1.alloc o).frozen 3
  have e3 : w2.cell? ⟨b, 3, none⟩ = some (rpt k) := h2.cell 3
  have HL := Lib.hid (add_leaf (g := g) v p hk2)
  have HX := Lib.hid (And.intro h2 (And.intro x2 x1.size))
  clear h h1 x1 h2 hk2 x2
  go_enter Tryz.func196, Tryz.ntmps196
  go_upto_region 33 with fail
  rw [← hw1]
  clear hw1
  go_upto_region 34 with fail
  rw [← hw2]
  have HK := Lib.hid hk
  clear hw2 c2 c3 d3 hk
  go_wp2_with (first | ((first | refine Mix.wpList_guarded rfl ?_ | refine Mix.wp_still (by kernel_rfl) (by kernel_rfl) ?_); (repeat' (first | (refine Mix.lex_quiet0 rfl rfl rfl ?_; intro K hK; go_big_quiet_op; go_big_quiet_on) | (refine Mix.lex_quietG rfl rfl rfl (by with_reducible rfl) rfl rfl ?_; intro K hK; go_big_quiet_op; go_big_quiet_on) | ((first | refine Mix.lex_skipT rfl rfl rfl (by with_reducible rfl) ?_ | refine Mix.lex_skipF rfl rfl rfl (by with_reducible rfl) ?_ | refine Mix.lex_skipU rfl rfl rfl (by with_reducible rfl) ?_); simp only [Act.put, List.setIfInBounds_toArray, List.set_cons_succ, List.set_cons_zero]) | (refine Mix.lex_part rfl rfl rfl rfl (fun hq => ?_) (fun hq => ?_) <;> (fail_if_success (guard_hyp hq :ₛ true = true)) <;> (fail_if_success (guard_hyp hq :ₛ false = false)) <;> first | (exfalso; cases hq; done) | (exfalso; simp only [decide_eq_true_eq, decide_eq_false_iff_not, beq_iff_eq, beq_eq_false_iff_ne, ne_eq, Int.not_lt, Int.not_le] at hq; omega) | simp only [Act.put, List.setIfInBounds_toArray, List.set_cons_succ, List.set_cons_zero]))); all_goals (refine Mix.lex_nil ?_)))
  refine HL.out.mono ?_
  rintro e w3 ⟨rfl, hl, ho⟩
  go_wp2_with (first | ((first | refine Mix.wpList_guarded rfl ?_ | refine Mix.wp_still (by kernel_rfl) (by kernel_rfl) ?_); (repeat' (first | (refine Mix.lex_quiet0 rfl rfl rfl ?_; intro K hK; go_big_quiet_op; go_big_quiet_on) | (refine Mix.lex_quietG rfl rfl rfl (by with_reducible rfl) rfl rfl ?_; intro K hK; go_big_quiet_op; go_big_quiet_on) | ((first | refine Mix.lex_skipT rfl rfl rfl (by with_reducible rfl) ?_ | refine Mix.lex_skipF rfl rfl rfl (by with_reducible rfl) ?_ | refine Mix.lex_skipU rfl rfl rfl (by with_reducible rfl) ?_); simp only [Act.put, List.setIfInBounds_toArray, List.set_cons_succ, List.set_cons_zero]) | (refine Mix.lex_part rfl rfl rfl rfl (fun hq => ?_) (fun hq => ?_) <;> (fail_if_success (guard_hyp hq :ₛ true = true)) <;> (fail_if_success (guard_hyp hq :ₛ false = false)) <;> first | (exfalso; cases hq; done) | (exfalso; simp only [decide_eq_true_eq, decide_eq_false_iff_not, beq_iff_eq, beq_eq_false_iff_ne, ne_eq, Int.not_lt, Int.not_le] at hq; omega) | simp only [Act.put, List.setIfInBounds_toArray, List.set_cons_succ, List.set_cons_zero]))); all_goals (refine Mix.lex_nil ?_)))
  go_end0
  exact ⟨rfl, k, by rw [HK.out]; exact HX.out.2.2, HX.out.1.keep ho (fun e => hkb e.symm), hl, HX.out.2.1.trans ho fun x hx e => by have e : x = k := e; have := HX.out.2.2; have := HK.out; omega⟩
theorem ptab_info : (Tryz.prog.info? pnT).map (fun i => (i.zero, i.size, i.bytes)) = some (some (.pointer none), 1, 8) := by kernel_rfl
theorem make_ptrs (w : World) : (Instr.makeSlice 260 (.int .i64 5) (.int .i64 5)).run Tryz.prog w =
    .ok (.slice (some ⟨w.heap.size, 0, none⟩) 5 5) (w.alloc (.cells #[.pointer none, .pointer none, .pointer none, .pointer none, .pointer none] pnT)) := by
  obtain ⟨i0, hi, hz, h1, h2⟩ := info_parts ptab_info
  have hr := run_make (P := Tryz.prog) w 260 pnT i0 (.pointer none) Tryz.underlying260 hi hz .i64 .i64 5 5 (by omega) (by omega) (by rw [h2]; omega) (by omega)
  rw [hr, h1, show madeCells (Value.pointer none).cells (Int.toNat 5 * 1) = #[.pointer none, .pointer none, .pointer none, .pointer none, .pointer none] from by kernel_rfl]
  rfl
theorem nil5_at {m : Nat} (h : m < 5) : (#[.pointer none, .pointer none, .pointer none, .pointer none, .pointer none] : Array Value)[m]? = some (.pointer none) := by
  match m, h with
  | 0, _ => rfl
  | 1, _ => rfl
  | 2, _ => rfl
  | 3, _ => rfl
  | 4, _ => rfl
abbrev nils5 : Array Value := #[.pointer none, .pointer none, .pointer none, .pointer none, .pointer none]
set_option maxRecDepth 100000 in
set_option maxHeartbeats 1000000 in
theorem add_split {w : World} {b g k0 mx mc : Nat} {t : TypeId} {gs : Array Value} {x c : UInt8} (v : Str) (p : Int) (hxc : x ≠ c) (hmx : mx < 5) (hmc : mc < 5) (hbg : b ≠ g)
    (h : Cs w b t #[S [], .int .i64 0, S [x], rpt k0, .slice none 0 0]) (hg : Cs w g genT gs) (g5 : gs[5]? = some (.int .i64 5)) (gx : gs[6 + x.toNat]? = some (.int .u8 mx)) (gc : gs[6 + c.toNat]? = some (.int .u8 mc)) :
    Calls Tryz.prog 196 #[rpt b, S [c], S v, .int .i64 p, rpt g] w fun e w' => e = .returned (.tuple #[]) ∧ ∃ k tb, w.heap.size ≤ k ∧ w.heap.size ≤ tb ∧ k ≠ tb ∧
      Cs w' b t #[S [], .int .i64 0, S [], .pointer none, .slice (some ⟨tb, 0, none⟩) 5 5] ∧ Cs w' tb pnT ((nils5.setIfInBounds mx (rpt k0)).setIfInBounds mc (rpt k)) ∧ Cs w' k nodT (leafA v p) ∧ Only (fun x => x = b) w w' := by
  have c2 : w.cell? ⟨b, 2, none⟩ = some (S [x]) := h.cell 2
  have c3 : w.cell? ⟨b, 3, none⟩ = some (rpt k0) := h.cell 3
  have c4 : w.cell? ⟨b, 4, none⟩ = some (.slice none 0 0) := h.cell 4
  have hne : (((x.toNat : Nat) : Int) == ((c.toNat : Nat) : Int)) = false := by
    rw [beq_eq_false_iff_ne]
    intro e
    exact hxc (UInt8.toNat_inj.1 (Int.ofNat.inj e))
  have d2 : ∀ ξ : X w No, ξ.v.cell? ⟨b, 2, none⟩ = some (S [x]) := h.x id 2
  have H := Lib.hid h
  have HG := Lib.hid hg
  clear h hg
  go_enter Tryz.func196, Tryz.ntmps196
  go_wp2_with (first | ((first | refine Mix.wpList_guarded rfl ?_ | refine Mix.wp_still (by kernel_rfl) (by kernel_rfl) ?_); (repeat' (first | (refine Mix.lex_quiet0 rfl rfl rfl ?_; intro K hK; go_big_quiet_op; go_big_quiet_on) | (refine Mix.lex_quietG rfl rfl rfl (by with_reducible rfl) rfl rfl ?_; intro K hK; go_big_quiet_op; go_big_quiet_on) | ((first | refine Mix.lex_skipT rfl rfl rfl (by with_reducible rfl) ?_ | refine Mix.lex_skipF rfl rfl rfl (by with_reducible rfl) ?_ | refine Mix.lex_skipU rfl rfl rfl (by with_reducible rfl) ?_); simp only [Act.put, List.setIfInBounds_toArray, List.set_cons_succ, List.set_cons_zero]) | (refine Mix.lex_part rfl rfl rfl rfl (fun hq => ?_) (fun hq => ?_) <;> (fail_if_success (guard_hyp hq :ₛ true = true)) <;> (fail_if_success (guard_hyp hq :ₛ false = false)) <;> first | (exfalso; cases hq; done) | (exfalso; simp only [decide_eq_true_eq, decide_eq_false_iff_not, beq_iff_eq, beq_eq_false_iff_ne, ne_eq, Int.not_lt, Int.not_le] at hq; omega) | simp only [Act.put, List.setIfInBounds_toArray, List.set_cons_succ, List.set_cons_zero]))); all_goals (refine Mix.lex_nil ?_)))
  go_loopw [10] (fun i wr => i = .int .i64 0 ∧ wr = w) (fun _ _ => 0)
  case atStart => exact ⟨rfl, rfl⟩
  case round =>
    obtain ⟨rfl, rfl⟩ := hrel
    go_upto_region 8 with fail
    (refine Mix.wp_draw [] 100 (Cl (wr) (No)) (by kernel_rfl) (by kernel_rfl) (Cl.drew_ (X.here wr No)) ?_; (repeat' (first | (refine Mix.lex_quiet0 rfl rfl rfl ?_; intro K hK; go_big_quiet_op; go_big_quiet_on) | (refine Mix.lex_quietG rfl rfl rfl (by with_reducible rfl) rfl rfl ?_; intro K hK; go_big_quiet_op; go_big_quiet_on) | ((first | refine Mix.lex_skipT rfl rfl rfl (by with_reducible rfl) ?_ | refine Mix.lex_skipF rfl rfl rfl (by with_reducible rfl) ?_ | refine Mix.lex_skipU rfl rfl rfl (by with_reducible rfl) ?_); simp only [Act.put, List.setIfInBounds_toArray, List.set_cons_succ, List.set_cons_zero]) | (refine Mix.lex_part rfl rfl rfl rfl (fun hq => ?_) (fun hq => ?_) <;> (fail_if_success (guard_hyp hq :ₛ true = true)) <;> (fail_if_success (guard_hyp hq :ₛ false = false)) <;> first | (exfalso; cases hq; done) | (exfalso; simp only [decide_eq_true_eq, decide_eq_false_iff_not, beq_iff_eq, beq_eq_false_iff_ne, ne_eq, Int.not_lt, Int.not_le] at hq; omega) | simp only [Act.put, List.setIfInBounds_toArray, List.set_cons_succ, List.set_cons_zero]))))
    all_goals (refine Mix.lex_nil ?_)
    go_upto_region 17 with fail
    obtain ⟨w1, hw1⟩ : ∃ u, u = (wr.alloc (.cells #[.string ⟨#[]⟩, .int .i64 0, .string ⟨#[]⟩, .pointer none, .slice none 0 0] nodT)).drew := ⟨_, rfl⟩
    obtain ⟨k, hk⟩ : ∃ k, k = wr.heap.size := ⟨_, rfl⟩
    rw [← hw1, ← hk]
    have x1 : Ext wr w1 := by rw [hw1]; exact ((Only.refl No wr).alloc _).drew
    have h1 := H.out.keep x1 id
    have g1 := HG.out.keep x1 id
    have k1 : Cs w1 k nodT nod0 := by rw [hw1, hk]; exact (Cs.new wr nodT nodZ).drew
    have hkb : k ≠ b := by have := H.out.lt; omega
    have e5 : w1.cell? ⟨g, 5, none⟩ = some (.int .i64 5) := (g1.cell 5).trans g5
    have d4 : ∀ o, (w1.alloc o).cell? ⟨b, 4, none⟩ = some (.slice none 0 0) := fun o => (h1.alloc o).cell 4
    have z4 : ∀ o, (w1.alloc o).frozen? ⟨b, 4, none⟩ = false := fun o => (h1.alloc o).frozen 4
    have HK := Lib.hid hk
    have HX1 := Lib.hid (And.intro h1 (And.intro g1 (And.intro k1 x1)))
    clear hw1 hk x1 h1 g1 k1 c2 c3 c4 d2
    have HM := make_ptrs w1
    go_upto_region 18 with fail
    obtain ⟨w2, hw2⟩ : ∃ u, u = (w1.alloc (.cells #[.pointer none, .pointer none, .pointer none, .pointer none, .pointer none] pnT)).setCell ⟨b, 4, none⟩ (.slice (some ⟨w1.heap.size, 0, none⟩) 5 5) := ⟨_, rfl⟩
    obtain ⟨tb, htb⟩ : ∃ k, k = w1.heap.size := ⟨_, rfl⟩
    rw [← hw2]
    have htbb : tb ≠ b := by have := HX1.out.1.lt; omega
    have htbg : tb ≠ g := by have := HX1.out.2.1.lt; omega
    have htbk : k ≠ tb := by have := HX1.out.2.2.1.lt; omega
    have x2 : Only (fun y => y = b) w1 w2 := by rw [hw2]; exact ((Only.refl _ w1).alloc _).at_ 4 _
    have h2 : Cs w2 b t #[S [], .int .i64 0, S [x], rpt k0, .slice (some ⟨tb, 0, none⟩) 5 5] := by rw [hw2, htb]; exact (HX1.out.1.alloc _).set_ 4 _
    have g2 : Cs w2 g genT gs := HX1.out.2.1.keep x2 (fun e => hbg e.symm)
    have k2 : Cs w2 k nodT nod0 := HX1.out.2.2.1.keep x2 hkb
    have t2 : Cs w2 tb pnT nils5 := by rw [hw2, htb]; exact (Cs.new w1 pnT _).far (by rw [← htb]; exact htbb) _
    have HX2 := Lib.hid (And.intro h2 (And.intro g2 (And.intro k2 (And.intro t2 x2))))
    have HTB := Lib.hid htb
    clear hw2 htb HM x2 h2 g2 k2 t2 e5 d4 z4
    have q4 : ∀ ξ : X w2 (fun y => y = tb), ξ.v.cell? ⟨b, 4, none⟩ = some (.slice (some ⟨tb, 0, none⟩) 5 5) := HX2.out.1.x (fun e => htbb e.symm) 4
    have q2 : ∀ ξ : X w2 (fun y => y = tb), ξ.v.cell? ⟨b, 2, none⟩ = some (S [x]) := HX2.out.1.x (fun e => htbb e.symm) 2
    have qx : ∀ ξ : X w2 (fun y => y = tb), ξ.v.cell? ⟨g, 6 + x.toNat, none⟩ = some (.int .u8 mx) := fun ξ => (HX2.out.2.1.x (F := fun y => y = tb) (fun e => htbg e.symm) (6 + x.toNat) ξ).trans gx
    have hx8 : x.toNat < 256 := x.toNat_lt
    have hc8 : c.toNat < 256 := c.toNat_lt
    (refine Mix.wp_draw [16] 16 (Cl (w2) ((fun y => y = tb))) (by kernel_rfl) (by kernel_rfl) (Cl.of (Only.refl _ _).drew) ?_; (repeat' (first | (refine Mix.lex_quiet0 rfl rfl rfl ?_; intro K hK; go_big_quiet_op; go_big_quiet_on) | (refine Mix.lex_quietG rfl rfl rfl (by with_reducible rfl) rfl rfl ?_; intro K hK; go_big_quiet_op; go_big_quiet_on) | ((first | refine Mix.lex_skipT rfl rfl rfl (by with_reducible rfl) ?_ | refine Mix.lex_skipF rfl rfl rfl (by with_reducible rfl) ?_ | refine Mix.lex_skipU rfl rfl rfl (by with_reducible rfl) ?_); simp only [Act.put, List.setIfInBounds_toArray, List.set_cons_succ, List.set_cons_zero]) | (refine Mix.lex_part rfl rfl rfl rfl (fun hq => ?_) (fun hq => ?_) <;> (fail_if_success (guard_hyp hq :ₛ true = true)) <;> (fail_if_success (guard_hyp hq :ₛ false = false)) <;> first | (exfalso; cases hq; done) | (exfalso; simp only [decide_eq_true_eq, decide_eq_false_iff_not, beq_iff_eq, beq_eq_false_iff_ne, ne_eq, Int.not_lt, Int.not_le] at hq; omega) | simp only [Act.put, List.setIfInBounds_toArray, List.set_cons_succ, List.set_cons_zero]))))
    have s1 : w2.drew.cell? ⟨tb, mx, none⟩ = some (.pointer none) := (HX2.out.2.2.2.1.drew.cell mx).trans (nil5_at hmx)
    have s2 : w2.drew.frozen? ⟨tb, mx, none⟩ = false := HX2.out.2.2.2.1.drew.frozen mx
    ((first | refine Mix.lex_goes0 rfl rfl ?_ | refine Mix.lex_goesG rfl rfl rfl (by with_reducible rfl) rfl ?_); intro K hK; go_simp)
    obtain ⟨w3, hw3⟩ : ∃ u, u = (w2.setCell ⟨tb, mx, none⟩ (rpt k0)).drew := ⟨_, rfl⟩
    rw [← hw3]
    refine hK _ _ (fun hne => absurd rfl hne) ?_
    clear hK K
    simp only [Act.put, List.setIfInBounds_toArray, List.set_cons_succ, List.set_cons_zero]
    refine Mix.lex_nil ?_
    have x3 : Only (fun y => y = tb) w2 w3 := by rw [hw3]; exact ((Only.refl _ w2).at_ mx _).drew
    have h3 := HX2.out.1.keep x3 (fun e => htbb e.symm)
    have g3 := HX2.out.2.1.keep x3 (fun e => htbg e.symm)
    have k3 := HX2.out.2.2.1.keep x3 htbk
    have t3 : Cs w3 tb pnT (nils5.setIfInBounds mx (rpt k0)) := by rw [hw3]; exact (HX2.out.2.2.2.1.set_ mx _).drew
    have HX3 := Lib.hid (And.intro h3 (And.intro g3 (And.intro k3 (And.intro t3 x3))))
    clear hw3 x3 h3 g3 k3 t3 q4 q2 qx s1 s2
    have q4 : ∀ ξ : X w3 (fun y => y = tb), ξ.v.cell? ⟨b, 4, none⟩ = some (.slice (some ⟨tb, 0, none⟩) 5 5) := HX3.out.1.x (fun e => htbb e.symm) 4
    have qc : ∀ ξ : X w3 (fun y => y = tb), ξ.v.cell? ⟨g, 6 + c.toNat, none⟩ = some (.int .u8 mc) := fun ξ => (HX3.out.2.1.x (F := fun y => y = tb) (fun e => htbg e.symm) (6 + c.toNat) ξ).trans gc
    go_upto_region 19 with fail
    (refine Mix.wp_draw [13] 13 (Cl (w3) ((fun y => y = tb))) (by kernel_rfl) (by kernel_rfl) (Cl.of (Only.refl _ _).drew) ?_; (repeat' (first | (refine Mix.lex_quiet0 rfl rfl rfl ?_; intro K hK; go_big_quiet_op; go_big_quiet_on) | (refine Mix.lex_quietG rfl rfl rfl (by with_reducible rfl) rfl rfl ?_; intro K hK; go_big_quiet_op; go_big_quiet_on) | ((first | refine Mix.lex_skipT rfl rfl rfl (by with_reducible rfl) ?_ | refine Mix.lex_skipF rfl rfl rfl (by with_reducible rfl) ?_ | refine Mix.lex_skipU rfl rfl rfl (by with_reducible rfl) ?_); simp only [Act.put, List.setIfInBounds_toArray, List.set_cons_succ, List.set_cons_zero]) | (refine Mix.lex_part rfl rfl rfl rfl (fun hq => ?_) (fun hq => ?_) <;> (fail_if_success (guard_hyp hq :ₛ true = true)) <;> (fail_if_success (guard_hyp hq :ₛ false = false)) <;> first | (exfalso; cases hq; done) | (exfalso; simp only [decide_eq_true_eq, decide_eq_false_iff_not, beq_iff_eq, beq_eq_false_iff_ne, ne_eq, Int.not_lt, Int.not_le] at hq; omega) | simp only [Act.put, List.setIfInBounds_toArray, List.set_cons_succ, List.set_cons_zero]))))
    have s1 : ∃ u, w3.drew.cell? ⟨tb, mc, none⟩ = some u := by
      rw [HX3.out.2.2.2.1.drew.cell mc]
      exact ⟨_, Array.getElem?_eq_getElem (by rw [Array.size_setIfInBounds]; exact hmc)⟩
    obtain ⟨u, s1⟩ := s1
    have s2 : w3.drew.frozen? ⟨tb, mc, none⟩ = false := HX3.out.2.2.2.1.drew.frozen mc
    ((first | refine Mix.lex_goes0 rfl rfl ?_ | refine Mix.lex_goesG rfl rfl rfl (by with_reducible rfl) rfl ?_); intro K hK; go_simp)
    obtain ⟨w4, hw4⟩ : ∃ u, u = (w3.setCell ⟨tb, mc, none⟩ (rpt k)).drew := ⟨_, rfl⟩
    rw [← hw4]
    refine hK _ _ (fun hne => absurd rfl hne) ?_
    clear hK K
    simp only [Act.put, List.setIfInBounds_toArray, List.set_cons_succ, List.set_cons_zero]
    refine Mix.lex_nil ?_
    have x4 : Only (fun y => y = tb) w3 w4 := by rw [hw4]; exact ((Only.refl _ w3).at_ mc _).drew
    have h4 := HX3.out.1.keep x4 (fun e => htbb e.symm)
    have k4 := HX3.out.2.2.1.keep x4 htbk
    have t4 : Cs w4 tb pnT ((nils5.setIfInBounds mx (rpt k0)).setIfInBounds mc (rpt k)) := by rw [hw4]; exact (HX3.out.2.2.2.1.set_ mc _).drew
    have e2 : w4.cell? ⟨b, 2, none⟩ = some (S [x]) := h4.cell 2
    have e3 : w4.cell? ⟨b, 3, none⟩ = some (rpt k0) := h4.cell 3
    have z2 := h4.frozen 2
    have z3 := h4.frozen 3
    obtain ⟨w5, hw5⟩ : ∃ u, u = (w4.setCell ⟨b, 2, none⟩ (.string ⟨#[]⟩)).setCell ⟨b, 3, none⟩ (.pointer none) := ⟨_, rfl⟩
    have x5 : Only (fun y => y = b) w4 w5 := by rw [hw5]; exact ((Only.refl _ w4).at_ 2 _).at_ 3 _
    have h5 : Cs w5 b t #[S [], .int .i64 0, S [], .pointer none, .slice (some ⟨tb, 0, none⟩) 5 5] := by rw [hw5]; exact (h4.set_ 2 _).set_ 3 _
    have k5 := k4.keep x5 hkb
    have t5 := t4.keep x5 htbb
    have HL := Lib.hid (add_leaf (g := g) v p k5)
    have HX5 := Lib.hid (And.intro h5 (And.intro t5 (And.intro x4 x5)))
    clear hw4 x4 h4 k4 t4 q4 qc s1 s2 x5 h5 k5 t5
    go_upto_region 22 with fail
    rw [← hw5]
    clear hw5
    go_wp2_with (first | ((first | refine Mix.wpList_guarded rfl ?_ | refine Mix.wp_still (by kernel_rfl) (by kernel_rfl) ?_); (repeat' (first | (refine Mix.lex_quiet0 rfl rfl rfl ?_; intro K hK; go_big_quiet_op; go_big_quiet_on) | (refine Mix.lex_quietG rfl rfl rfl (by with_reducible rfl) rfl rfl ?_; intro K hK; go_big_quiet_op; go_big_quiet_on) | ((first | refine Mix.lex_skipT rfl rfl rfl (by with_reducible rfl) ?_ | refine Mix.lex_skipF rfl rfl rfl (by with_reducible rfl) ?_ | refine Mix.lex_skipU rfl rfl rfl (by with_reducible rfl) ?_); simp only [Act.put, List.setIfInBounds_toArray, List.set_cons_succ, List.set_cons_zero]) | (refine Mix.lex_part rfl rfl rfl rfl (fun hq => ?_) (fun hq => ?_) <;> (fail_if_success (guard_hyp hq :ₛ true = true)) <;> (fail_if_success (guard_hyp hq :ₛ false = false)) <;> first | (exfalso; cases hq; done) | (exfalso; simp only [decide_eq_true_eq, decide_eq_false_iff_not, beq_iff_eq, beq_eq_false_iff_ne, ne_eq, Int.not_lt, Int.not_le] at hq; omega) | simp only [Act.put, List.setIfInBounds_toArray, List.set_cons_succ, List.set_cons_zero]))); all_goals (refine Mix.lex_nil ?_)))
    refine HL.out.mono ?_
    rintro e w6 ⟨rfl, hl, ho⟩
    go_wp2_with (first | ((first | refine Mix.wpList_guarded rfl ?_ | refine Mix.wp_still (by kernel_rfl) (by kernel_rfl) ?_); (repeat' (first | (refine Mix.lex_quiet0 rfl rfl rfl ?_; intro K hK; go_big_quiet_op; go_big_quiet_on) | (refine Mix.lex_quietG rfl rfl rfl (by with_reducible rfl) rfl rfl ?_; intro K hK; go_big_quiet_op; go_big_quiet_on) | ((first | refine Mix.lex_skipT rfl rfl rfl (by with_reducible rfl) ?_ | refine Mix.lex_skipF rfl rfl rfl (by with_reducible rfl) ?_ | refine Mix.lex_skipU rfl rfl rfl (by with_reducible rfl) ?_); simp only [Act.put, List.setIfInBounds_toArray, List.set_cons_succ, List.set_cons_zero]) | (refine Mix.lex_part rfl rfl rfl rfl (fun hq => ?_) (fun hq => ?_) <;> (fail_if_success (guard_hyp hq :ₛ true = true)) <;> (fail_if_success (guard_hyp hq :ₛ false = false)) <;> first | (exfalso; cases hq; done) | (exfalso; simp only [decide_eq_true_eq, decide_eq_false_iff_not, beq_iff_eq, beq_eq_false_iff_ne, ne_eq, Int.not_lt, Int.not_le] at hq; omega) | simp only [Act.put, List.setIfInBounds_toArray, List.set_cons_succ, List.set_cons_zero]))); all_goals (refine Mix.lex_nil ?_)))
    go_end0
    have hs1 := HX1.out.2.2.2.size
    have hk0 := HK.out
    have htb := HTB.out
    refine ⟨rfl, k, tb, by omega, by omega, htbk, HX5.out.1.keep ho (fun e => hkb e.symm), HX5.out.2.1.keep ho (fun e => htbk e.symm), hl, ?_⟩
    have o1 : Only (fun y => y = b) wr w2 := HX1.out.2.2.2.any.trans HX2.out.2.2.2.2 fun y hy e => e
    have o2 : Only (fun y => y = b) wr w3 := o1.trans HX3.out.2.2.2.2 fun y hy e => by have e : y = tb := e; omega
    have o3 : Only (fun y => y = b) wr w4 := o2.trans HX5.out.2.2.1 fun y hy e => by have e : y = tb := e; omega
    have o4 : Only (fun y => y = b) wr w5 := o3.trans HX5.out.2.2.2 fun y hy e => e
    exact o4.trans ho fun y hy e => by have e : y = k := e; omega
set_option maxRecDepth 100000 in
set_option maxHeartbeats 1000000 in
theorem add_old {w : World} {b g tb n m : Nat} {t : TypeId} {bs ts gs : Array Value} {c : UInt8} {r : Str} (v : Str) (p : Int) {Q : World → Prop} (hm : m < 5)
    (h : Cs w b t bs) (h2 : bs[2]? = some (S [])) (h4 : bs[4]? = some (.slice (some ⟨tb, 0, none⟩) 5 5)) (ht : Cs w tb pnT ts) (hn : ts[m]? = some (rpt n)) (hg : Cs w g genT gs) (gc : gs[6 + c.toNat]? = some (.int .u8 m))
    (hrec : ∀ u, Ext w u → Calls Tryz.prog 196 #[rpt n, S r, S v, .int .i64 p, rpt g] u fun e w' => e = .returned (.tuple #[]) ∧ Q w') :
    Calls Tryz.prog 196 #[rpt b, S (c :: r), S v, .int .i64 p, rpt g] w fun e w' => e = .returned (.tuple #[]) ∧ Q w' := by
  have c1 : w.cell? ⟨b, 2, none⟩ = some (S []) := (h.cell 2).trans h2
  have c4 : ∀ ξ : X w No, ξ.v.cell? ⟨b, 4, none⟩ = some (.slice (some ⟨tb, 0, none⟩) 5 5) := fun ξ => (h.x (F := No) id 4 ξ).trans h4
  have cm : ∀ ξ : X w No, ξ.v.cell? ⟨g, 6 + c.toNat, none⟩ = some (.int .u8 m) := fun ξ => (hg.x (F := No) id (6 + c.toNat) ξ).trans gc
  have hc8 : c.toNat < 256 := c.toNat_lt
  have cn : ∀ ξ : X w No, ξ.v.cell? ⟨tb, m, none⟩ = some (rpt n) := fun ξ => (ht.x (F := No) id m ξ).trans hn
  have c4' : w.cell? ⟨b, 4, none⟩ = some (.slice (some ⟨tb, 0, none⟩) 5 5) := c4 (X.here w No)
  have cn' : w.cell? ⟨tb, m, none⟩ = some (rpt n) := cn (X.here w No)
  have HR := Lib.hid hrec
  clear h h2 h4 ht hn hg gc hrec
  go_enter Tryz.func196, Tryz.ntmps196
  go_upto_region 28 with fail
  (refine Mix.wp_draw [] 100 (Cl (w) (No)) (by kernel_rfl) (by kernel_rfl) (Cl.drew_ (X.here w No)) ?_; (repeat' (first | (refine Mix.lex_quiet0 rfl rfl rfl ?_; intro K hK; go_big_quiet_op; go_big_quiet_on) | (refine Mix.lex_quietG rfl rfl rfl (by with_reducible rfl) rfl rfl ?_; intro K hK; go_big_quiet_op; go_big_quiet_on) | ((first | refine Mix.lex_skipT rfl rfl rfl (by with_reducible rfl) ?_ | refine Mix.lex_skipF rfl rfl rfl (by with_reducible rfl) ?_ | refine Mix.lex_skipU rfl rfl rfl (by with_reducible rfl) ?_); simp only [Act.put, List.setIfInBounds_toArray, List.set_cons_succ, List.set_cons_zero]) | (refine Mix.lex_part rfl rfl rfl rfl (fun hq => ?_) (fun hq => ?_) <;> (fail_if_success (guard_hyp hq :ₛ true = true)) <;> (fail_if_success (guard_hyp hq :ₛ false = false)) <;> first | (exfalso; cases hq; done) | (exfalso; simp only [decide_eq_true_eq, decide_eq_false_iff_not, beq_iff_eq, beq_eq_false_iff_ne, ne_eq, Int.not_lt, Int.not_le] at hq; omega) | simp only [Act.put, List.setIfInBounds_toArray, List.set_cons_succ, List.set_cons_zero]))))
  all_goals (refine Mix.lex_nil ?_)
  go_upto_region 31 with fail
  (refine Mix.wp_draw [12] 12 (Cl (w) (No)) (by kernel_rfl) (by kernel_rfl) (Cl.of (Only.refl No w).drew.drew) ?_; (repeat' (first | (refine Mix.lex_quiet0 rfl rfl rfl ?_; intro K hK; go_big_quiet_op; go_big_quiet_on) | (refine Mix.lex_quietG rfl rfl rfl (by with_reducible rfl) rfl rfl ?_; intro K hK; go_big_quiet_op; go_big_quiet_on) | ((first | refine Mix.lex_skipT rfl rfl rfl (by with_reducible rfl) ?_ | refine Mix.lex_skipF rfl rfl rfl (by with_reducible rfl) ?_ | refine Mix.lex_skipU rfl rfl rfl (by with_reducible rfl) ?_); simp only [Act.put, List.setIfInBounds_toArray, List.set_cons_succ, List.set_cons_zero]) | (refine Mix.lex_part rfl rfl rfl rfl (fun hq => ?_) (fun hq => ?_) <;> (fail_if_success (guard_hyp hq :ₛ true = true)) <;> (fail_if_success (guard_hyp hq :ₛ false = false)) <;> first | (exfalso; cases hq; done) | (exfalso; simp only [decide_eq_true_eq, decide_eq_false_iff_not, beq_iff_eq, beq_eq_false_iff_ne, ne_eq, Int.not_lt, Int.not_le] at hq; omega) | simp only [Act.put, List.setIfInBounds_toArray, List.set_cons_succ, List.set_cons_zero]))))
  ((first | refine Mix.lex_goes0 rfl rfl ?_ | refine Mix.lex_goesG rfl rfl rfl (by with_reducible rfl) rfl ?_); intro K hK; go_simp)
  refine (HR.out _ (Only.refl No w).drew.drew).mono ?_
  rintro e w' ⟨rfl, hQ⟩
  refine ⟨_, rfl, hK _ _ (fun hne => absurd rfl hne) ?_⟩
  clear hK K
  simp only [Act.put, List.setIfInBounds_toArray, List.set_cons_succ, List.set_cons_zero]
  refine Mix.lex_nil ?_
  go_wp2_with (first | ((first | refine Mix.wpList_guarded rfl ?_ | refine Mix.wp_still (by kernel_rfl) (by kernel_rfl) ?_); (repeat' (first | (refine Mix.lex_quiet0 rfl rfl rfl ?_; intro K hK; go_big_quiet_op; go_big_quiet_on) | (refine Mix.lex_quietG rfl rfl rfl (by with_reducible rfl) rfl rfl ?_; intro K hK; go_big_quiet_op; go_big_quiet_on) | ((first | refine Mix.lex_skipT rfl rfl rfl (by with_reducible rfl) ?_ | refine Mix.lex_skipF rfl rfl rfl (by with_reducible rfl) ?_ | refine Mix.lex_skipU rfl rfl rfl (by with_reducible rfl) ?_); simp only [Act.put, List.setIfInBounds_toArray, List.set_cons_succ, List.set_cons_zero]) | (refine Mix.lex_part rfl rfl rfl rfl (fun hq => ?_) (fun hq => ?_) <;> (fail_if_success (guard_hyp hq :ₛ true = true)) <;> (fail_if_success (guard_hyp hq :ₛ false = false)) <;> first | (exfalso; cases hq; done) | (exfalso; simp only [decide_eq_true_eq, decide_eq_false_iff_not, beq_iff_eq, beq_eq_false_iff_ne, ne_eq, Int.not_lt, Int.not_le] at hq; omega) | simp only [Act.put, List.setIfInBounds_toArray, List.set_cons_succ, List.set_cons_zero]))); all_goals (refine Mix.lex_nil ?_)))
  go_end0
  exact ⟨rfl, hQ⟩
set_option maxRecDepth 100000 in
set_option maxHeartbeats 1000000 in
theorem add_nil {w : World} {b g tb m : Nat} {t : TypeId} {bs ts gs : Array Value} {c : UInt8} {r : Str} (v : Str) (p : Int) {Q : World → Prop} (hm : m < 5)
    (h : Cs w b t bs) (h2 : bs[2]? = some (S [])) (h4 : bs[4]? = some (.slice (some ⟨tb, 0, none⟩) 5 5)) (ht : Cs w tb pnT ts) (hn : ts[m]? = some (.pointer none)) (hbt : b ≠ tb) (hg : Cs w g genT gs) (gc : gs[6 + c.toNat]? = some (.int .u8 m))
    (hrec : ∀ u k, w.heap.size ≤ k → Only (fun x => x = tb) w u → Cs u tb pnT (ts.setIfInBounds m (rpt k)) → Cs u k nodT nod0 → Calls Tryz.prog 196 #[rpt k, S r, S v, .int .i64 p, rpt g] u fun e w' => e = .returned (.tuple #[]) ∧ Q w') :
    Calls Tryz.prog 196 #[rpt b, S (c :: r), S v, .int .i64 p, rpt g] w fun e w' => e = .returned (.tuple #[]) ∧ Q w' := by
  have c1 : w.cell? ⟨b, 2, none⟩ = some (S []) := (h.cell 2).trans h2
  have c4 : ∀ ξ : X w No, ξ.v.cell? ⟨b, 4, none⟩ = some (.slice (some ⟨tb, 0, none⟩) 5 5) := fun ξ => (h.x (F := No) id 4 ξ).trans h4
  have cm : ∀ ξ : X w No, ξ.v.cell? ⟨g, 6 + c.toNat, none⟩ = some (.int .u8 m) := fun ξ => (hg.x (F := No) id (6 + c.toNat) ξ).trans gc
  have hc8 : c.toNat < 256 := c.toNat_lt
  have cn : w.cell? ⟨tb, m, none⟩ = some (.pointer none) := (ht.cell m).trans hn
  have c4' : w.cell? ⟨b, 4, none⟩ = some (.slice (some ⟨tb, 0, none⟩) 5 5) := c4 (X.here w No)
  have HR := Lib.hid hrec
  go_enter Tryz.func196, Tryz.ntmps196
  go_upto_region 28 with fail
  (refine Mix.wp_draw [] 100 (Cl (w) (No)) (by kernel_rfl) (by kernel_rfl) (Cl.drew_ (X.here w No)) ?_; (repeat' (first | (refine Mix.lex_quiet0 rfl rfl rfl ?_; intro K hK; go_big_quiet_op; go_big_quiet_on) | (refine Mix.lex_quietG rfl rfl rfl (by with_reducible rfl) rfl rfl ?_; intro K hK; go_big_quiet_op; go_big_quiet_on) | ((first | refine Mix.lex_skipT rfl rfl rfl (by with_reducible rfl) ?_ | refine Mix.lex_skipF rfl rfl rfl (by with_reducible rfl) ?_ | refine Mix.lex_skipU rfl rfl rfl (by with_reducible rfl) ?_); simp only [Act.put, List.setIfInBounds_toArray, List.set_cons_succ, List.set_cons_zero]) | (refine Mix.lex_part rfl rfl rfl rfl (fun hq => ?_) (fun hq => ?_) <;> (fail_if_success (guard_hyp hq :ₛ true = true)) <;> (fail_if_success (guard_hyp hq :ₛ false = false)) <;> first | (exfalso; cases hq; done) | (exfalso; simp only [decide_eq_true_eq, decide_eq_false_iff_not, beq_iff_eq, beq_eq_false_iff_ne, ne_eq, Int.not_lt, Int.not_le] at hq; omega) | simp only [Act.put, List.setIfInBounds_toArray, List.set_cons_succ, List.set_cons_zero]))))
  all_goals (refine Mix.lex_nil ?_)
  obtain ⟨w1, hw1⟩ : ∃ u, u = w.drew := ⟨_, rfl⟩
  have x1 : Ext w w1 := by rw [hw1]; exact (Only.refl No w).drew
  have t1 := ht.keep x1 id
  have b1 := h.keep x1 id
  rw [← hw1]
  have e4 : ∀ o, (w1.alloc o).cell? ⟨b, 4, none⟩ = some (.slice (some ⟨tb, 0, none⟩) 5 5) := fun o => ((b1.alloc o).cell 4).trans h4
  have f4 : w1.cell? ⟨b, 4, none⟩ = some (.slice (some ⟨tb, 0, none⟩) 5 5) := (b1.cell 4).trans h4
  have em : ∀ o, (w1.alloc o).cell? ⟨tb, m, none⟩ = some (.pointer none) := fun o => ((t1.alloc o).cell m).trans hn
  have fm : w1.cell? ⟨tb, m, none⟩ = some (.pointer none) := (t1.cell m).trans hn
  have zm : ∀ o, (w1.alloc o).frozen? ⟨tb, m, none⟩ = false := fun o => (t1.alloc o).frozen m
  have HH := Lib.hid (And.intro b1 (And.intro t1 (And.intro x1 (And.intro h4 hn))))
  have HG := Lib.hid gc
  clear hw1 h h2 h4 ht hn hg gc hrec x1 t1 b1 c1 c4 cm cn c4'
  go_upto_region 31 with fail
  obtain ⟨w2, hw2⟩ : ∃ u, u = (w1.alloc (.cells #[.string ⟨#[]⟩, .int .i64 0, .string ⟨#[]⟩, .pointer none, .slice none 0 0] nodT)).setCell ⟨tb, m, none⟩ (.pointer (some ⟨w1.heap.size, 0, none⟩)) := ⟨_, rfl⟩
  obtain ⟨k, hk⟩ : ∃ k, k = w1.heap.size := ⟨_, rfl⟩
  rw [← hw2]
  have hkt : k ≠ tb := by have := HH.out.2.1.lt; omega
  have x2 : Only (fun x => x = tb) w w2 := by rw [hw2]; exact ((HH.out.2.2.1.any).alloc _).at_ m _
  have b2 : Cs w2 b t bs := by rw [hw2]; exact (HH.out.1.alloc _).far hbt _
  have t2 : Cs w2 tb pnT (ts.setIfInBounds m (rpt k)) := by rw [hw2, hk]; exact (HH.out.2.1.alloc _).set_ m _
  have k2 : Cs w2 k nodT nod0 := by rw [hw2, hk]; exact (Cs.new w1 nodT nodZ).far (by rw [← hk]; exact hkt) _
  have hts : (ts.setIfInBounds m (rpt k))[m]? = some (rpt k) := by
    have hz : m < ts.size := (Array.getElem?_eq_some_iff.1 HH.out.2.2.2.2).1
    simp [Array.getElem?_setIfInBounds, hz]
  have HK := Lib.hid hk
  have hwk : w.heap.size ≤ k := by rw [HK.out]; exact HH.out.2.2.1.size
  clear hw2 hk e4 f4 em fm zm
  have c4 : ∀ ξ : X w2 No, ξ.v.cell? ⟨b, 4, none⟩ = some (.slice (some ⟨tb, 0, none⟩) 5 5) := fun ξ => (b2.x (F := No) id 4 ξ).trans HH.out.2.2.2.1
  have cn : ∀ ξ : X w2 No, ξ.v.cell? ⟨tb, m, none⟩ = some (rpt k) := fun ξ => (t2.x (F := No) id m ξ).trans hts
  (refine Mix.wp_draw [12] 12 (Cl (w2) (No)) (by kernel_rfl) (by kernel_rfl) (Cl.of (Only.refl No w2).drew) ?_; (repeat' (first | (refine Mix.lex_quiet0 rfl rfl rfl ?_; intro K hK; go_big_quiet_op; go_big_quiet_on) | (refine Mix.lex_quietG rfl rfl rfl (by with_reducible rfl) rfl rfl ?_; intro K hK; go_big_quiet_op; go_big_quiet_on) | ((first | refine Mix.lex_skipT rfl rfl rfl (by with_reducible rfl) ?_ | refine Mix.lex_skipF rfl rfl rfl (by with_reducible rfl) ?_ | refine Mix.lex_skipU rfl rfl rfl (by with_reducible rfl) ?_); simp only [Act.put, List.setIfInBounds_toArray, List.set_cons_succ, List.set_cons_zero]) | (refine Mix.lex_part rfl rfl rfl rfl (fun hq => ?_) (fun hq => ?_) <;> (fail_if_success (guard_hyp hq :ₛ true = true)) <;> (fail_if_success (guard_hyp hq :ₛ false = false)) <;> first | (exfalso; cases hq; done) | (exfalso; simp only [decide_eq_true_eq, decide_eq_false_iff_not, beq_iff_eq, beq_eq_false_iff_ne, ne_eq, Int.not_lt, Int.not_le] at hq; omega) | simp only [Act.put, List.setIfInBounds_toArray, List.set_cons_succ, List.set_cons_zero]))))
  ((first | refine Mix.lex_goes0 rfl rfl ?_ | refine Mix.lex_goesG rfl rfl rfl (by with_reducible rfl) rfl ?_); intro K hK; go_simp)
  refine (HR.out _ k hwk x2.drew t2.drew k2.drew).mono ?_
  rintro e w' ⟨rfl, hQ⟩
  refine ⟨_, rfl, hK _ _ (fun hne => absurd rfl hne) ?_⟩
  clear hK K
  simp only [Act.put, List.setIfInBounds_toArray, List.set_cons_succ, List.set_cons_zero]
  refine Mix.lex_nil ?_
  go_wp2_with (first | ((first | refine Mix.wpList_guarded rfl ?_ | refine Mix.wp_still (by kernel_rfl) (by kernel_rfl) ?_); (repeat' (first | (refine Mix.lex_quiet0 rfl rfl rfl ?_; intro K hK; go_big_quiet_op; go_big_quiet_on) | (refine Mix.lex_quietG rfl rfl rfl (by with_reducible rfl) rfl rfl ?_; intro K hK; go_big_quiet_op; go_big_quiet_on) | ((first | refine Mix.lex_skipT rfl rfl rfl (by with_reducible rfl) ?_ | refine Mix.lex_skipF rfl rfl rfl (by with_reducible rfl) ?_ | refine Mix.lex_skipU rfl rfl rfl (by with_reducible rfl) ?_); simp only [Act.put, List.setIfInBounds_toArray, List.set_cons_succ, List.set_cons_zero]) | (refine Mix.lex_part rfl rfl rfl rfl (fun hq => ?_) (fun hq => ?_) <;> (fail_if_success (guard_hyp hq :ₛ true = true)) <;> (fail_if_success (guard_hyp hq :ₛ false = false)) <;> first | (exfalso; cases hq; done) | (exfalso; simp only [decide_eq_true_eq, decide_eq_false_iff_not, beq_iff_eq, beq_eq_false_iff_ne, ne_eq, Int.not_lt, Int.not_le] at hq; omega) | simp only [Act.put, List.setIfInBounds_toArray, List.set_cons_succ, List.set_cons_zero]))); all_goals (refine Mix.lex_nil ?_)))
  go_end0
  exact ⟨rfl, hQ⟩
end Go.Proofs.YtnhaekifcieeoaaGreatDoor
