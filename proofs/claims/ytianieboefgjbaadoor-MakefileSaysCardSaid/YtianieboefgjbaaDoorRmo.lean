/- The document's MakeOf. -/
import Derived.Test.YtianieboefgjbaaDoorRln
import Derived.Test.YtianieboefgjbaaDoorRmf
namespace Go.Proofs.YtianieboefgjbaaDoor
open Go Go.RowKit
set_option maxRecDepth 100000 in
set_option maxHeartbeats 8000000 in
theorem MakeOf_c {w : World} (s : Str) (hs : s.length ≤ 100000) : Calls Tryd.prog 7 #[S s] w (HdRes w (parseF s)) := by
  obtain ⟨g2, hg2⟩ : ∃ g, g = w.heap.size := ⟨_, rfl⟩
  obtain ⟨w1, hw1⟩ : ∃ w1, w1 = w.alloc (.cells #[.slice none 0 0, .slice none 0 0, .slice none 0 0] makeT) := ⟨_, rfl⟩
  have x1 : Ext w w1 := by rw [hw1]; exact (Only.refl No w).alloc _
  have C1 : Hid (Cs w1 g2 makeT #[.slice none 0 0, .slice none 0 0, .slice none 0 0]) := by rw [hw1, hg2]; exact Cs.new _ _ _
  have hz1 : g2 < w1.heap.size := by rw [hw1, hg2]; simp
  have hz0 : w.heap.size ≤ g2 := by omega
  have HX : Hid (∀ u v, Ext w1 u → Only (fun b => b = g2) u v → Ext w v) := fun u v h1 h2 => (x1.then_ext h1).trans h2 fun b hb e => by have e : b = g2 := e; omega
  have HP : Hid (parseF s = if 600 < s.length then (mk0, 2) else if (foldF (splB 10 s) mk0).2 ≠ 0 then (mk0, (foldF (splB 10 s) mk0).2) else if chkF (foldF (splB 10 s) mk0).1 = 0 then ((foldF (splB 10 s) mk0).1, 0) else (mk0, chkF (foldF (splB 10 s) mk0).1)) := rfl
  have X0 : Hid (Ext w1 w1) := Only.refl _ _
  clear x1
  by_cases hl : 600 < s.length
  · have g6 : decide ((600 : Int) < (s.length : Int)) = true := by rw [decide_eq_true_iff]; omega
    have HR := Lib.hid (HP.out.trans (if_pos hl))
    go_enter Tryd.func7, Tryd.ntmps7
    go_upto_region 1 with fail
    rw [← hw1, ← hg2]
    clear hw1 hg2
    have e0 : w1.cell? ⟨g2, 0, none⟩ = some (.slice none 0 0) := C1.out.cell 0
    have e1 : w1.cell? ⟨g2, 1, none⟩ = some (.slice none 0 0) := C1.out.cell 1
    have e2 : w1.cell? ⟨g2, 2, none⟩ = some (.slice none 0 0) := C1.out.cell 2
    have z0 := C1.out.frozen 0
    have z1 := C1.out.frozen 1
    have z2 := C1.out.frozen 2
    have HO : Hid (∀ a b c, Only (fun b => b = g2) w1 (((w1.setCell ⟨g2, 0, none⟩ a).setCell ⟨g2, 1, none⟩ b).setCell ⟨g2, 2, none⟩ c)) := fun a b c => (((Only.refl _ _).at_ 0 a).at_ 1 b).at_ 2 c
    have HS : Hid (∀ a b c, Cs (((w1.setCell ⟨g2, 0, none⟩ a).setCell ⟨g2, 1, none⟩ b).setCell ⟨g2, 2, none⟩ c) g2 makeT #[a, b, c]) := fun a b c => ((C1.out.set_ 0 a).set_ 1 b).set_ 2 c
    go_wp2_with (first | (refine Mix.wpList_guarded rfl ?_; (repeat' (first | (refine Mix.lex_quiet0 rfl rfl rfl ?_; intro K hK; go_big_quiet_op; go_big_quiet_on) | (refine Mix.lex_quietG rfl rfl rfl (by with_reducible rfl) rfl rfl ?_; intro K hK; go_big_quiet_op; go_big_quiet_on) | ((first | refine Mix.lex_skipT rfl rfl rfl (by with_reducible rfl) ?_ | refine Mix.lex_skipF rfl rfl rfl (by with_reducible rfl) ?_ | refine Mix.lex_skipU rfl rfl rfl (by with_reducible rfl) ?_); simp only [Act.put, List.setIfInBounds_toArray, List.set_cons_succ, List.set_cons_zero]) | (refine Mix.lex_part rfl rfl rfl rfl (fun hq => ?_) (fun hq => ?_) <;> (fail_if_success (guard_hyp hq :ₛ true = true)) <;> (fail_if_success (guard_hyp hq :ₛ false = false)) <;> first | (exfalso; cases hq; done) | (exfalso; simp only [decide_eq_true_eq, decide_eq_false_iff_not, beq_iff_eq, beq_eq_false_iff_ne, ne_eq, Int.not_lt, Int.not_le] at hq; omega) | simp only [Act.put, List.setIfInBounds_toArray, List.set_cons_succ, List.set_cons_zero]))); all_goals (refine Mix.lex_nil ?_)) | (refine Mix.wp_still (by kernel_rfl) (by kernel_rfl) ?_; (repeat' (first | (refine Mix.lex_quiet0 rfl rfl rfl ?_; intro K hK; go_big_quiet_op; go_big_quiet_on) | (refine Mix.lex_quietG rfl rfl rfl (by with_reducible rfl) rfl rfl ?_; intro K hK; go_big_quiet_op; go_big_quiet_on) | ((first | refine Mix.lex_skipT rfl rfl rfl (by with_reducible rfl) ?_ | refine Mix.lex_skipF rfl rfl rfl (by with_reducible rfl) ?_ | refine Mix.lex_skipU rfl rfl rfl (by with_reducible rfl) ?_); simp only [Act.put, List.setIfInBounds_toArray, List.set_cons_succ, List.set_cons_zero]) | (refine Mix.lex_part rfl rfl rfl rfl (fun hq => ?_) (fun hq => ?_) <;> (fail_if_success (guard_hyp hq :ₛ true = true)) <;> (fail_if_success (guard_hyp hq :ₛ false = false)) <;> first | (exfalso; cases hq; done) | (exfalso; simp only [decide_eq_true_eq, decide_eq_false_iff_not, beq_iff_eq, beq_eq_false_iff_ne, ne_eq, Int.not_lt, Int.not_le] at hq; omega) | simp only [Act.put, List.setIfInBounds_toArray, List.set_cons_succ, List.set_cons_zero]))); all_goals (refine Mix.lex_nil ?_)))
    have hl := load_mk (HS.out (.slice none 0 0) (.slice none 0 0) (.slice none 0 0))
    refine bodyPost_cell (p := 2) (u := 3) (ty := makeT) (ad := ⟨g2, 0, none⟩) rfl rfl rfl hl ?_
    rw [HR.out]
    exact ⟨mkV0, [], rfl, makeS0 _, HX.out _ _ (X0.out) (HO.out _ _ _)⟩
  · have g6 : decide ((600 : Int) < (s.length : Int)) = false := by rw [decide_eq_false_iff_not]; omega
    have HP2 := Lib.hid (HP.out.trans (if_neg hl))
    clear HP
    obtain ⟨g4, hg4⟩ : ∃ g, g = w1.heap.size := ⟨_, rfl⟩
    obtain ⟨w2, hw2⟩ : ∃ u, u = w1.alloc (.cells #[.slice none 0 0, .slice none 0 0, .slice none 0 0] makeT) := ⟨_, rfl⟩
    have x2 : Ext w1 w2 := by rw [hw2]; exact (Only.refl No w1).alloc _
    have C2 : Hid (Cs w2 g4 makeT #[.slice none 0 0, .slice none 0 0, .slice none 0 0]) := by
      rw [hw2, hg4]
      exact Cs.new _ _ _
    have hz4 : w1.heap.size ≤ g4 := Nat.le_of_eq hg4.symm
    have X2 := Lib.hid x2
    have hll : ∀ l ∈ splB 10 s, l.length ≤ 600 := fun l hx => by have := splB_mem 10 s l hx; omega
    have hsl := splB_le 10 s
    have HSp := Lib.hid (RSplit_c s (by omega) 10 10 rfl w2)
    have HLl := Lib.hid hll
    clear x2 hll
    obtain ⟨ls, hls⟩ : ∃ l, l = splB 10 s := ⟨_, rfl⟩
    rw [← hls] at HSp HLl HP2 hsl
    clear hls
    go_enter Tryd.func7, Tryd.ntmps7
    go_upto_region 1 with fail
    rw [← hw1, ← hg2]
    clear hw1 hg2
    go_upto_region 4 with fail
    rw [← hw2, ← hg4]
    clear hw2 hg4
    go_wp2_with (first | (refine Mix.wpList_guarded rfl ?_; (repeat' (first | (refine Mix.lex_quiet0 rfl rfl rfl ?_; intro K hK; go_big_quiet_op; go_big_quiet_on) | (refine Mix.lex_quietG rfl rfl rfl (by with_reducible rfl) rfl rfl ?_; intro K hK; go_big_quiet_op; go_big_quiet_on) | ((first | refine Mix.lex_skipT rfl rfl rfl (by with_reducible rfl) ?_ | refine Mix.lex_skipF rfl rfl rfl (by with_reducible rfl) ?_ | refine Mix.lex_skipU rfl rfl rfl (by with_reducible rfl) ?_); simp only [Act.put, List.setIfInBounds_toArray, List.set_cons_succ, List.set_cons_zero]) | (refine Mix.lex_part rfl rfl rfl rfl (fun hq => ?_) (fun hq => ?_) <;> (fail_if_success (guard_hyp hq :ₛ true = true)) <;> (fail_if_success (guard_hyp hq :ₛ false = false)) <;> first | (exfalso; cases hq; done) | (exfalso; simp only [decide_eq_true_eq, decide_eq_false_iff_not, beq_iff_eq, beq_eq_false_iff_ne, ne_eq, Int.not_lt, Int.not_le] at hq; omega) | simp only [Act.put, List.setIfInBounds_toArray, List.set_cons_succ, List.set_cons_zero]))); all_goals (refine Mix.lex_nil ?_)) | (refine Mix.wp_still (by kernel_rfl) (by kernel_rfl) ?_; (repeat' (first | (refine Mix.lex_quiet0 rfl rfl rfl ?_; intro K hK; go_big_quiet_op; go_big_quiet_on) | (refine Mix.lex_quietG rfl rfl rfl (by with_reducible rfl) rfl rfl ?_; intro K hK; go_big_quiet_op; go_big_quiet_on) | ((first | refine Mix.lex_skipT rfl rfl rfl (by with_reducible rfl) ?_ | refine Mix.lex_skipF rfl rfl rfl (by with_reducible rfl) ?_ | refine Mix.lex_skipU rfl rfl rfl (by with_reducible rfl) ?_); simp only [Act.put, List.setIfInBounds_toArray, List.set_cons_succ, List.set_cons_zero]) | (refine Mix.lex_part rfl rfl rfl rfl (fun hq => ?_) (fun hq => ?_) <;> (fail_if_success (guard_hyp hq :ₛ true = true)) <;> (fail_if_success (guard_hyp hq :ₛ false = false)) <;> first | (exfalso; cases hq; done) | (exfalso; simp only [decide_eq_true_eq, decide_eq_false_iff_not, beq_iff_eq, beq_eq_false_iff_ne, ne_eq, Int.not_lt, Int.not_le] at hq; omega) | simp only [Act.put, List.setIfInBounds_toArray, List.set_cons_succ, List.set_cons_zero]))); all_goals (refine Mix.lex_nil ?_)))
    refine HSp.out.mono ?_
    rintro e w3 ⟨A3, c3, rfl, hF3⟩
    have F3 := Lib.hid (Fresh.from hF3 X2.out)
    have C3 := Lib.hid (C2.out.keep hF3.ext id)
    clear hF3 C2 HSp X2
    go_wp2_with (first | (refine Mix.wpList_guarded rfl ?_; (repeat' (first | (refine Mix.lex_quiet0 rfl rfl rfl ?_; intro K hK; go_big_quiet_op; go_big_quiet_on) | (refine Mix.lex_quietG rfl rfl rfl (by with_reducible rfl) rfl rfl ?_; intro K hK; go_big_quiet_op; go_big_quiet_on) | ((first | refine Mix.lex_skipT rfl rfl rfl (by with_reducible rfl) ?_ | refine Mix.lex_skipF rfl rfl rfl (by with_reducible rfl) ?_ | refine Mix.lex_skipU rfl rfl rfl (by with_reducible rfl) ?_); simp only [Act.put, List.setIfInBounds_toArray, List.set_cons_succ, List.set_cons_zero]) | (refine Mix.lex_part rfl rfl rfl rfl (fun hq => ?_) (fun hq => ?_) <;> (fail_if_success (guard_hyp hq :ₛ true = true)) <;> (fail_if_success (guard_hyp hq :ₛ false = false)) <;> first | (exfalso; cases hq; done) | (exfalso; simp only [decide_eq_true_eq, decide_eq_false_iff_not, beq_iff_eq, beq_eq_false_iff_ne, ne_eq, Int.not_lt, Int.not_le] at hq; omega) | simp only [Act.put, List.setIfInBounds_toArray, List.set_cons_succ, List.set_cons_zero]))); all_goals (refine Mix.lex_nil ?_)) | (refine Mix.wp_still (by kernel_rfl) (by kernel_rfl) ?_; (repeat' (first | (refine Mix.lex_quiet0 rfl rfl rfl ?_; intro K hK; go_big_quiet_op; go_big_quiet_on) | (refine Mix.lex_quietG rfl rfl rfl (by with_reducible rfl) rfl rfl ?_; intro K hK; go_big_quiet_op; go_big_quiet_on) | ((first | refine Mix.lex_skipT rfl rfl rfl (by with_reducible rfl) ?_ | refine Mix.lex_skipF rfl rfl rfl (by with_reducible rfl) ?_ | refine Mix.lex_skipU rfl rfl rfl (by with_reducible rfl) ?_); simp only [Act.put, List.setIfInBounds_toArray, List.set_cons_succ, List.set_cons_zero]) | (refine Mix.lex_part rfl rfl rfl rfl (fun hq => ?_) (fun hq => ?_) <;> (fail_if_success (guard_hyp hq :ₛ true = true)) <;> (fail_if_success (guard_hyp hq :ₛ false = false)) <;> first | (exfalso; cases hq; done) | (exfalso; simp only [decide_eq_true_eq, decide_eq_false_iff_not, beq_iff_eq, beq_eq_false_iff_ne, ne_eq, Int.not_lt, Int.not_le] at hq; omega) | simp only [Act.put, List.setIfInBounds_toArray, List.set_cons_succ, List.set_cons_zero]))); all_goals (refine Mix.lex_nil ?_)))
    go_loopw [6] (fun i wr => ∃ j : Nat, j ≤ ls.length ∧ i = .int .i64 j ∧ Fresh strF 9 w1 wr A3 c3 ls ∧ ∃ vA vc rA rc pA pc rs m, Cs wr g4 makeT #[.slice vA (Mk.vars m).length vc, .slice rA (Mk.rules m).length rc, .slice pA (Mk.phony m).length pc] ∧ MakeS wr ⟨vA, vc, rA, rc, pA, pc⟩ rs m ∧ m.Fit j ∧ foldF ls mk0 = foldF (ls.drop j) m) (fun i _ => ls.length - (intOf i).toNat)
    case atStart => exact ⟨0, Nat.zero_le _, rfl, F3.out, none, 0, none, 0, none, 0, [], mk0, C3.out, makeS0 _, mk0_fit, rfl⟩
    case round =>
      obtain ⟨j, hj, rfl, hF, vA, vc, rA, rc, pA, pc, rs, m, hC, hM, hf, hfo⟩ := hrel
      have F := Lib.hid hF
      have C := Lib.hid hC
      have M := Lib.hid hM
      have HFt := Lib.hid hf
      have HFo := Lib.hid hfo
      have D := Lib.hid (C1.out.keep hF.ext id)
      have q0 : wr.cell? ⟨g4, 0, none⟩ = some (.slice vA m.vars.length vc) := hC.cell 0
      have q1 : wr.cell? ⟨g4, 1, none⟩ = some (.slice rA m.rules.length rc) := hC.cell 1
      have q2 : wr.cell? ⟨g4, 2, none⟩ = some (.slice pA m.phony.length pc) := hC.cell 2
      clear hF hC hM hf hfo F3 C3
      by_cases hlt : j < ls.length
      · clear q0 q1 q2
        obtain ⟨b, o, l, rfl, hx, cx⟩ := strs_get (F.out.row (by decide)) hlt
        have HXl := Lib.hid hx
        have hll : l.length ≤ 600 := HLl.out l (List.mem_of_getElem? hx)
        have D0 : ∀ ξ : X wr No, ξ.v.cell? ⟨g4, 0, none⟩ = some (.slice vA m.vars.length vc) := C.out.x id 0
        have D1 : ∀ ξ : X wr No, ξ.v.cell? ⟨g4, 1, none⟩ = some (.slice rA m.rules.length rc) := C.out.x id 1
        have D2 : ∀ ξ : X wr No, ξ.v.cell? ⟨g4, 2, none⟩ = some (.slice pA m.phony.length pc) := C.out.x id 2
        have HLn := Lib.hid (fun (v : World) (hv : Ext wr v) => Lined_c (M.out.ext hv) HFt.out (by omega) l hll)
        have HFo2 : Hid (foldF ls mk0 = if (lineF m l).2 = 0 then foldF (ls.drop (j + 1)) (lineF m l).1 else (mk0, (lineF m l).2)) := by
          rw [Hid, HFo.out, drop_get HXl.out]
          rfl
        clear hx HFo
        go_upto_region 8 with fail
        go_cut [7, 8] from 23 to 32 (fun x f wx => ∃ g7 vA' vc' rA' rc' pA' pc' rs', x = .pointer (some ⟨g7, 0, none⟩) ∧ f = .int .i64 (lineF m l).2 ∧ Ext wr wx ∧ MakeS wx ⟨vA', vc', rA', rc', pA', pc'⟩ rs' (lineF m l).1 ∧ Cs wx g7 makeT #[.slice vA' (lineF m l).1.vars.length vc', .slice rA' (lineF m l).1.rules.length rc', .slice pA' (lineF m l).1.phony.length pc'] ∧ wr.heap.size ≤ g7)
        case first =>
          refine Mix.wp_tree 12 [5, 9, 10] (Cl wr No) rfl (by kernel_rfl) (by kernel_rfl) (Cl.drew_ (X.here wr No)) ?_
          obtain ⟨μ0, hμ0⟩ : ∃ u, u = wr.drew := ⟨_, rfl⟩
          have xμ : Ext wr μ0 := by rw [hμ0]; exact (Only.refl No wr).drew
          rw [← hμ0]
          clear hμ0
          (refine Mix.tree_quiet (i := 0) (by kernel_rfl) rfl rfl rfl rfl ?_; intro K hK; go_big_quiet_op; go_big_quiet_on); (refine Mix.tree_quiet (i := 1) (by kernel_rfl) rfl rfl rfl rfl ?_; intro K hK; go_big_quiet_op; go_big_quiet_on); (refine Mix.tree_quiet (i := 2) (by kernel_rfl) rfl rfl rfl rfl ?_; intro K hK; go_big_quiet_op; go_big_quiet_on); (refine Mix.tree_quiet (i := 3) (by kernel_rfl) rfl rfl rfl rfl ?_; intro K hK; go_big_quiet_op; go_big_quiet_on); (refine Mix.tree_quiet (i := 4) (by kernel_rfl) rfl rfl rfl rfl ?_; intro K hK; go_big_quiet_op; go_big_quiet_on)
          refine Mix.tree_two (i := 5) (j := 9) (by kernel_rfl) (by kernel_rfl) rfl rfl rfl rfl rfl rfl ?_ ?_
          · intro K hK
            go_simp
            refine (HLn.out _ (xμ)).mono ?_
            rintro e' u5 ⟨v', rs', rfl, hM5, hx5⟩
            obtain ⟨vA', vc', rA', rc', pA', pc'⟩ := v'
            refine ⟨_, rfl, hK _ _ (Cl.of ((xμ).then_ext hx5)) ?_⟩
            clear hK K
            simp only [Act.put, List.setIfInBounds_toArray, List.set_cons_succ, List.set_cons_zero]
            (refine Mix.tree_quiet (i := 6) (by kernel_rfl) rfl rfl rfl rfl ?_; intro K hK; go_big_quiet_op; go_big_quiet_on); (refine Mix.tree_quiet (i := 7) (by kernel_rfl) rfl rfl rfl rfl ?_; intro K hK; go_big_quiet_op; go_big_quiet_on); (refine Mix.tree_quiet (i := 8) (by kernel_rfl) rfl rfl rfl rfl ?_; intro K hK; go_big_quiet_op; go_big_quiet_on)
            (refine Mix.tree_one (i := 9) (by kernel_rfl) (by kernel_rfl) rfl rfl rfl ?_; intro K hK; go_simp)
            obtain ⟨va, hva⟩ : ∃ u, u = (u5).alloc (.cells #[.slice none 0 0, .slice none 0 0, .slice none 0 0] makeT) := ⟨_, rfl⟩
            have yva : Ext (u5) va := by rw [hva]; exact (Only.refl No _).alloc _
            obtain ⟨g7, hg7⟩ : ∃ g, g = (u5).heap.size := ⟨_, rfl⟩
            have hC : Cs va g7 makeT #[.slice none 0 0, .slice none 0 0, .slice none 0 0] := by rw [hva, hg7]; exact Cs.new _ _ _
            have hG7 : wr.heap.size ≤ g7 := by rw [hg7]; exact (xμ.then_ext hx5).size
            rw [← hva, ← hg7]
            refine hK _ _ (Cl.of ((xμ.then_ext hx5).then_ext yva)) ?_
            clear hK K hva hg7
            simp only [Act.put, List.setIfInBounds_toArray, List.set_cons_succ, List.set_cons_zero]
            have hCb : Cs va g7 makeT #[.slice none 0 0, .slice none 0 0, .slice none 0 0] := hC
            have hMb : MakeS va ⟨vA', vc', rA', rc', pA', pc'⟩ rs' (lineF m l).1 := hM5.ext yva
            have k0 : va.cell? ⟨g7, 0, none⟩ = some (.slice none 0 0) := hCb.cell 0
            have k1 : va.cell? ⟨g7, 1, none⟩ = some (.slice none 0 0) := hCb.cell 1
            have k2 : va.cell? ⟨g7, 2, none⟩ = some (.slice none 0 0) := hCb.cell 2
            have z0 := hCb.frozen 0
            have z1 := hCb.frozen 1
            have z2 := hCb.frozen 2
            obtain ⟨v9, hv9⟩ : ∃ v9, v9 = (((va.setCell ⟨g7, 0, none⟩ (.slice vA' (lineF m l).1.vars.length vc')).setCell ⟨g7, 1, none⟩ (.slice rA' (lineF m l).1.rules.length rc')).setCell ⟨g7, 2, none⟩ (.slice pA' (lineF m l).1.phony.length pc')) := ⟨_, rfl⟩
            have O9 : Only (fun q => q = g7) va v9 := by rw [hv9]; exact (((Only.refl _ _).at_ 0 _).at_ 1 _).at_ 2 _
            have C9 : Cs v9 g7 makeT #[.slice vA' (lineF m l).1.vars.length vc', .slice rA' (lineF m l).1.rules.length rc', .slice pA' (lineF m l).1.phony.length pc'] := by rw [hv9]; exact ((hCb.set_ 0 _).set_ 1 _).set_ 2 _
            have x9 : Ext wr v9 := ((xμ.then_ext hx5).then_ext yva).trans O9 fun q hq e => by have e : q = g7 := e; omega
            have M9 := hMb.at_ hCb O9
            (refine Mix.tree_one (i := 10) (by kernel_rfl) (by kernel_rfl) rfl rfl rfl ?_; intro K hK; go_simp)
            rw [← hv9]
            refine hK _ _ (Cl.of x9) ?_
            clear hK K hv9 k0 k1 k2 z0 z1 z2
            simp only [Act.put, List.setIfInBounds_toArray, List.set_cons_succ, List.set_cons_zero]
            (refine Mix.tree_quiet (i := 11) (by kernel_rfl) rfl rfl rfl rfl ?_; intro K hK; go_big_quiet_op; go_big_quiet_on)
            refine Mix.tree_nil ?_
            go_wp2_with fail
            go_meet
            exact ⟨g7, vA', vc', rA', rc', pA', pc', rs', rfl, rfl, x9, M9, C9, by omega⟩
          · intro K hK
            go_simp
            obtain ⟨va, hva⟩ : ∃ u, u = (μ0).alloc (.cells #[.slice none 0 0, .slice none 0 0, .slice none 0 0] makeT) := ⟨_, rfl⟩
            have yva : Ext (μ0) va := by rw [hva]; exact (Only.refl No _).alloc _
            obtain ⟨g7, hg7⟩ : ∃ g, g = (μ0).heap.size := ⟨_, rfl⟩
            have hC : Cs va g7 makeT #[.slice none 0 0, .slice none 0 0, .slice none 0 0] := by rw [hva, hg7]; exact Cs.new _ _ _
            have hG7 : wr.heap.size ≤ g7 := by rw [hg7]; exact (xμ).size
            rw [← hva, ← hg7]
            refine hK _ _ (Cl.of ((xμ).then_ext yva)) ?_
            clear hK K hva hg7
            simp only [Act.put, List.setIfInBounds_toArray, List.set_cons_succ, List.set_cons_zero]
            refine Mix.tree_one (i := 5) (by kernel_rfl) (by kernel_rfl) rfl rfl rfl ?_
            intro K hK
            go_simp
            refine (HLn.out _ (xμ.then_ext yva)).mono ?_
            rintro e' u5 ⟨v', rs', rfl, hM5, hx5⟩
            obtain ⟨vA', vc', rA', rc', pA', pc'⟩ := v'
            refine ⟨_, rfl, hK _ _ (Cl.of ((xμ.then_ext yva).then_ext hx5)) ?_⟩
            clear hK K
            simp only [Act.put, List.setIfInBounds_toArray, List.set_cons_succ, List.set_cons_zero]
            (refine Mix.tree_quiet (i := 6) (by kernel_rfl) rfl rfl rfl rfl ?_; intro K hK; go_big_quiet_op; go_big_quiet_on); (refine Mix.tree_quiet (i := 7) (by kernel_rfl) rfl rfl rfl rfl ?_; intro K hK; go_big_quiet_op; go_big_quiet_on); (refine Mix.tree_quiet (i := 8) (by kernel_rfl) rfl rfl rfl rfl ?_; intro K hK; go_big_quiet_op; go_big_quiet_on)
            have hCb : Cs u5 g7 makeT #[.slice none 0 0, .slice none 0 0, .slice none 0 0] := hC.keep hx5 id
            have hMb : MakeS u5 ⟨vA', vc', rA', rc', pA', pc'⟩ rs' (lineF m l).1 := hM5
            have k0 : u5.cell? ⟨g7, 0, none⟩ = some (.slice none 0 0) := hCb.cell 0
            have k1 : u5.cell? ⟨g7, 1, none⟩ = some (.slice none 0 0) := hCb.cell 1
            have k2 : u5.cell? ⟨g7, 2, none⟩ = some (.slice none 0 0) := hCb.cell 2
            have z0 := hCb.frozen 0
            have z1 := hCb.frozen 1
            have z2 := hCb.frozen 2
            obtain ⟨v9, hv9⟩ : ∃ v9, v9 = (((u5.setCell ⟨g7, 0, none⟩ (.slice vA' (lineF m l).1.vars.length vc')).setCell ⟨g7, 1, none⟩ (.slice rA' (lineF m l).1.rules.length rc')).setCell ⟨g7, 2, none⟩ (.slice pA' (lineF m l).1.phony.length pc')) := ⟨_, rfl⟩
            have O9 : Only (fun q => q = g7) u5 v9 := by rw [hv9]; exact (((Only.refl _ _).at_ 0 _).at_ 1 _).at_ 2 _
            have C9 : Cs v9 g7 makeT #[.slice vA' (lineF m l).1.vars.length vc', .slice rA' (lineF m l).1.rules.length rc', .slice pA' (lineF m l).1.phony.length pc'] := by rw [hv9]; exact ((hCb.set_ 0 _).set_ 1 _).set_ 2 _
            have x9 : Ext wr v9 := ((xμ.then_ext yva).then_ext hx5).trans O9 fun q hq e => by have e : q = g7 := e; omega
            have M9 := hMb.at_ hCb O9
            (refine Mix.tree_one (i := 10) (by kernel_rfl) (by kernel_rfl) rfl rfl rfl ?_; intro K hK; go_simp)
            rw [← hv9]
            refine hK _ _ (Cl.of x9) ?_
            clear hK K hv9 k0 k1 k2 z0 z1 z2
            simp only [Act.put, List.setIfInBounds_toArray, List.set_cons_succ, List.set_cons_zero]
            (refine Mix.tree_quiet (i := 11) (by kernel_rfl) rfl rfl rfl rfl ?_; intro K hK; go_big_quiet_op; go_big_quiet_on)
            refine Mix.tree_nil ?_
            go_wp2_with fail
            go_meet
            exact ⟨g7, vA', vc', rA', rc', pA', pc', rs', rfl, rfl, x9, M9, C9, by omega⟩
        case rest =>
          obtain ⟨g7, vA', vc', rA', rc', pA', pc', rs', hc7, hc8, hx, hM, hC7, hG7⟩ := hcut
          subst hc7
          subst hc8
          have X5 := Lib.hid hx
          have M5 := Lib.hid hM
          have C5 := Lib.hid hC7
          have hnn := lineF_nonneg m l
          have CW := Lib.hid (C.out.keep hx id)
          have DW := Lib.hid (D.out.keep hx id)
          have FW := Lib.hid (F.out.on hx)
          have hf2 := Lib.hid (lineF_fit HFt.out (s := l) hll)
          clear hx hM hC7 D0 D1 D2 HLn cx D C F
          by_cases he : (lineF m l).2 = 0
          · have HFo3 := Lib.hid (HFo2.out.trans (if_pos he))
            have gz : decide ((0 : Int) < (lineF m l).2) = false := by rw [decide_eq_false_iff_not]; omega
            have y0 : wc.cell? ⟨g7, 0, none⟩ = some (.slice vA' (lineF m l).1.vars.length vc') := C5.out.cell 0
            have y1 : wc.cell? ⟨g7, 1, none⟩ = some (.slice rA' (lineF m l).1.rules.length rc') := C5.out.cell 1
            have y2 : wc.cell? ⟨g7, 2, none⟩ = some (.slice pA' (lineF m l).1.phony.length pc') := C5.out.cell 2
            have q0 : wc.cell? ⟨g4, 0, none⟩ = some (.slice vA m.vars.length vc) := CW.out.cell 0
            have q1 : wc.cell? ⟨g4, 1, none⟩ = some (.slice rA m.rules.length rc) := CW.out.cell 1
            have q2 : wc.cell? ⟨g4, 2, none⟩ = some (.slice pA m.phony.length pc) := CW.out.cell 2
            have z0 := CW.out.frozen 0
            have z1 := CW.out.frozen 1
            have z2 := CW.out.frozen 2
            obtain ⟨wG, hwG⟩ : ∃ u, u = (((wc.setCell ⟨g4, 0, none⟩ (.slice vA' (lineF m l).1.vars.length vc')).setCell ⟨g4, 1, none⟩ (.slice rA' (lineF m l).1.rules.length rc')).setCell ⟨g4, 2, none⟩ (.slice pA' (lineF m l).1.phony.length pc')) := ⟨_, rfl⟩
            have OG : Only (fun b => b = g4) wc wG := by rw [hwG]; exact (((Only.refl _ _).at_ 0 _).at_ 1 _).at_ 2 _
            have CG : Hid (Cs wG g4 makeT #[.slice vA' (lineF m l).1.vars.length vc', .slice rA' (lineF m l).1.rules.length rc', .slice pA' (lineF m l).1.phony.length pc']) := by rw [hwG]; exact ((CW.out.set_ 0 _).set_ 1 _).set_ 2 _
            have MG := Lib.hid (M5.out.at_ CW.out OG)
            have EG : Ext w1 wG := FW.out.ext.trans OG fun b hb e => by have e : b = g4 := e; omega
            have FG := Lib.hid (FW.out.keep OG EG (own_ne_cs FW.out.own CW.out (by decide)))
            clear OG EG
            go_wp2_with (first | (refine Mix.wpList_guarded rfl ?_; (repeat' (first | (refine Mix.lex_quiet0 rfl rfl rfl ?_; intro K hK; go_big_quiet_op; go_big_quiet_on) | (refine Mix.lex_quietG rfl rfl rfl (by with_reducible rfl) rfl rfl ?_; intro K hK; go_big_quiet_op; go_big_quiet_on) | ((first | refine Mix.lex_skipT rfl rfl rfl (by with_reducible rfl) ?_ | refine Mix.lex_skipF rfl rfl rfl (by with_reducible rfl) ?_ | refine Mix.lex_skipU rfl rfl rfl (by with_reducible rfl) ?_); simp only [Act.put, List.setIfInBounds_toArray, List.set_cons_succ, List.set_cons_zero]) | (refine Mix.lex_part rfl rfl rfl rfl (fun hq => ?_) (fun hq => ?_) <;> (fail_if_success (guard_hyp hq :ₛ true = true)) <;> (fail_if_success (guard_hyp hq :ₛ false = false)) <;> first | (exfalso; cases hq; done) | (exfalso; simp only [decide_eq_true_eq, decide_eq_false_iff_not, beq_iff_eq, beq_eq_false_iff_ne, ne_eq, Int.not_lt, Int.not_le] at hq; omega) | simp only [Act.put, List.setIfInBounds_toArray, List.set_cons_succ, List.set_cons_zero]))); all_goals (refine Mix.lex_nil ?_)) | (refine Mix.wp_still (by kernel_rfl) (by kernel_rfl) ?_; (repeat' (first | (refine Mix.lex_quiet0 rfl rfl rfl ?_; intro K hK; go_big_quiet_op; go_big_quiet_on) | (refine Mix.lex_quietG rfl rfl rfl (by with_reducible rfl) rfl rfl ?_; intro K hK; go_big_quiet_op; go_big_quiet_on) | ((first | refine Mix.lex_skipT rfl rfl rfl (by with_reducible rfl) ?_ | refine Mix.lex_skipF rfl rfl rfl (by with_reducible rfl) ?_ | refine Mix.lex_skipU rfl rfl rfl (by with_reducible rfl) ?_); simp only [Act.put, List.setIfInBounds_toArray, List.set_cons_succ, List.set_cons_zero]) | (refine Mix.lex_part rfl rfl rfl rfl (fun hq => ?_) (fun hq => ?_) <;> (fail_if_success (guard_hyp hq :ₛ true = true)) <;> (fail_if_success (guard_hyp hq :ₛ false = false)) <;> first | (exfalso; cases hq; done) | (exfalso; simp only [decide_eq_true_eq, decide_eq_false_iff_not, beq_iff_eq, beq_eq_false_iff_ne, ne_eq, Int.not_lt, Int.not_le] at hq; omega) | simp only [Act.put, List.setIfInBounds_toArray, List.set_cons_succ, List.set_cons_zero]))); all_goals (refine Mix.lex_nil ?_)))
            rw [← hwG]
            go_roundw
            case rel => exact ⟨j + 1, by omega, by go_num, FG.out, vA', vc', rA', rc', pA', pc', rs', (lineF m l).1, CG.out, MG.out, hf2.out, HFo3.out⟩
            case measure => simp [intOf]; omega
          · have gz : decide ((0 : Int) < (lineF m l).2) = true := by rw [decide_eq_true_iff]; omega
            have HR : Hid (parseF s = (mk0, (lineF m l).2)) := by
              rw [Hid, HP2.out, HFo2.out.trans (if_neg he)]
              exact if_pos he
            have e0 : wc.cell? ⟨g2, 0, none⟩ = some (.slice none 0 0) := DW.out.cell 0
            have e1 : wc.cell? ⟨g2, 1, none⟩ = some (.slice none 0 0) := DW.out.cell 1
            have e2 : wc.cell? ⟨g2, 2, none⟩ = some (.slice none 0 0) := DW.out.cell 2
            have z0 := DW.out.frozen 0
            have z1 := DW.out.frozen 1
            have z2 := DW.out.frozen 2
            have HO : Hid (∀ a b c, Only (fun b => b = g2) wc (((wc.setCell ⟨g2, 0, none⟩ a).setCell ⟨g2, 1, none⟩ b).setCell ⟨g2, 2, none⟩ c)) := fun a b c => (((Only.refl _ _).at_ 0 a).at_ 1 b).at_ 2 c
            have HS : Hid (∀ a b c, Cs (((wc.setCell ⟨g2, 0, none⟩ a).setCell ⟨g2, 1, none⟩ b).setCell ⟨g2, 2, none⟩ c) g2 makeT #[a, b, c]) := fun a b c => ((DW.out.set_ 0 a).set_ 1 b).set_ 2 c
            go_wp2_with (first | (refine Mix.wpList_guarded rfl ?_; (repeat' (first | (refine Mix.lex_quiet0 rfl rfl rfl ?_; intro K hK; go_big_quiet_op; go_big_quiet_on) | (refine Mix.lex_quietG rfl rfl rfl (by with_reducible rfl) rfl rfl ?_; intro K hK; go_big_quiet_op; go_big_quiet_on) | ((first | refine Mix.lex_skipT rfl rfl rfl (by with_reducible rfl) ?_ | refine Mix.lex_skipF rfl rfl rfl (by with_reducible rfl) ?_ | refine Mix.lex_skipU rfl rfl rfl (by with_reducible rfl) ?_); simp only [Act.put, List.setIfInBounds_toArray, List.set_cons_succ, List.set_cons_zero]) | (refine Mix.lex_part rfl rfl rfl rfl (fun hq => ?_) (fun hq => ?_) <;> (fail_if_success (guard_hyp hq :ₛ true = true)) <;> (fail_if_success (guard_hyp hq :ₛ false = false)) <;> first | (exfalso; cases hq; done) | (exfalso; simp only [decide_eq_true_eq, decide_eq_false_iff_not, beq_iff_eq, beq_eq_false_iff_ne, ne_eq, Int.not_lt, Int.not_le] at hq; omega) | simp only [Act.put, List.setIfInBounds_toArray, List.set_cons_succ, List.set_cons_zero]))); all_goals (refine Mix.lex_nil ?_)) | (refine Mix.wp_still (by kernel_rfl) (by kernel_rfl) ?_; (repeat' (first | (refine Mix.lex_quiet0 rfl rfl rfl ?_; intro K hK; go_big_quiet_op; go_big_quiet_on) | (refine Mix.lex_quietG rfl rfl rfl (by with_reducible rfl) rfl rfl ?_; intro K hK; go_big_quiet_op; go_big_quiet_on) | ((first | refine Mix.lex_skipT rfl rfl rfl (by with_reducible rfl) ?_ | refine Mix.lex_skipF rfl rfl rfl (by with_reducible rfl) ?_ | refine Mix.lex_skipU rfl rfl rfl (by with_reducible rfl) ?_); simp only [Act.put, List.setIfInBounds_toArray, List.set_cons_succ, List.set_cons_zero]) | (refine Mix.lex_part rfl rfl rfl rfl (fun hq => ?_) (fun hq => ?_) <;> (fail_if_success (guard_hyp hq :ₛ true = true)) <;> (fail_if_success (guard_hyp hq :ₛ false = false)) <;> first | (exfalso; cases hq; done) | (exfalso; simp only [decide_eq_true_eq, decide_eq_false_iff_not, beq_iff_eq, beq_eq_false_iff_ne, ne_eq, Int.not_lt, Int.not_le] at hq; omega) | simp only [Act.put, List.setIfInBounds_toArray, List.set_cons_succ, List.set_cons_zero]))); all_goals (refine Mix.lex_nil ?_)))
            have hl := load_mk (HS.out (.slice none 0 0) (.slice none 0 0) (.slice none 0 0))
            refine bodyPost_cell (p := 2) (u := 3) (ty := makeT) (ad := ⟨g2, 0, none⟩) rfl rfl rfl hl ?_
            rw [HR.out]
            exact ⟨mkV0, [], rfl, makeS0 _, HX.out _ _ (FW.out.ext) (HO.out _ _ _)⟩
      · obtain rfl : j = ls.length := by omega
        have HFo2 : Hid (foldF ls mk0 = (m, 0)) := by
          rw [Hid, HFo.out, List.drop_of_length_le (Nat.le_refl _)]
          rfl
        have HMf := Lib.hid (MakeFault_c M.out.here HFt.out.r (fun x hx => ⟨(HFt.out.rt x hx).1, (HFt.out.rt x hx).2.1⟩) (by have := HFt.out.p; omega))
        have hcc := chkF_cases m
        go_upto_region 12 with fail
        go_wp2_with (first | (refine Mix.wpList_guarded rfl ?_; (repeat' (first | (refine Mix.lex_quiet0 rfl rfl rfl ?_; intro K hK; go_big_quiet_op; go_big_quiet_on) | (refine Mix.lex_quietG rfl rfl rfl (by with_reducible rfl) rfl rfl ?_; intro K hK; go_big_quiet_op; go_big_quiet_on) | ((first | refine Mix.lex_skipT rfl rfl rfl (by with_reducible rfl) ?_ | refine Mix.lex_skipF rfl rfl rfl (by with_reducible rfl) ?_ | refine Mix.lex_skipU rfl rfl rfl (by with_reducible rfl) ?_); simp only [Act.put, List.setIfInBounds_toArray, List.set_cons_succ, List.set_cons_zero]) | (refine Mix.lex_part rfl rfl rfl rfl (fun hq => ?_) (fun hq => ?_) <;> (fail_if_success (guard_hyp hq :ₛ true = true)) <;> (fail_if_success (guard_hyp hq :ₛ false = false)) <;> first | (exfalso; cases hq; done) | (exfalso; simp only [decide_eq_true_eq, decide_eq_false_iff_not, beq_iff_eq, beq_eq_false_iff_ne, ne_eq, Int.not_lt, Int.not_le] at hq; omega) | simp only [Act.put, List.setIfInBounds_toArray, List.set_cons_succ, List.set_cons_zero]))); all_goals (refine Mix.lex_nil ?_)) | (refine Mix.wp_still (by kernel_rfl) (by kernel_rfl) ?_; (repeat' (first | (refine Mix.lex_quiet0 rfl rfl rfl ?_; intro K hK; go_big_quiet_op; go_big_quiet_on) | (refine Mix.lex_quietG rfl rfl rfl (by with_reducible rfl) rfl rfl ?_; intro K hK; go_big_quiet_op; go_big_quiet_on) | ((first | refine Mix.lex_skipT rfl rfl rfl (by with_reducible rfl) ?_ | refine Mix.lex_skipF rfl rfl rfl (by with_reducible rfl) ?_ | refine Mix.lex_skipU rfl rfl rfl (by with_reducible rfl) ?_); simp only [Act.put, List.setIfInBounds_toArray, List.set_cons_succ, List.set_cons_zero]) | (refine Mix.lex_part rfl rfl rfl rfl (fun hq => ?_) (fun hq => ?_) <;> (fail_if_success (guard_hyp hq :ₛ true = true)) <;> (fail_if_success (guard_hyp hq :ₛ false = false)) <;> first | (exfalso; cases hq; done) | (exfalso; simp only [decide_eq_true_eq, decide_eq_false_iff_not, beq_iff_eq, beq_eq_false_iff_ne, ne_eq, Int.not_lt, Int.not_le] at hq; omega) | simp only [Act.put, List.setIfInBounds_toArray, List.set_cons_succ, List.set_cons_zero]))); all_goals (refine Mix.lex_nil ?_)))
        refine HMf.out.mono ?_
        rintro e u5 ⟨rfl, hx⟩
        have M5 := Lib.hid (M.out.ext hx)
        have CW := Lib.hid (C.out.keep hx id)
        have DW := Lib.hid (D.out.keep hx id)
        have XW := Lib.hid (F.out.ext.then_ext hx)
        clear hx HMf q0 q1 q2
        by_cases he : chkF m = 0
        · have gz : decide ((0 : Int) < chkF m) = false := by rw [decide_eq_false_iff_not]; omega
          have HR : Hid (parseF s = (m, 0)) := by
            rw [Hid, HP2.out, HFo2.out]
            exact (if_neg (by simp)).trans (if_pos he)
          have q0 : u5.cell? ⟨g4, 0, none⟩ = some (.slice vA m.vars.length vc) := CW.out.cell 0
          have q1 : u5.cell? ⟨g4, 1, none⟩ = some (.slice rA m.rules.length rc) := CW.out.cell 1
          have q2 : u5.cell? ⟨g4, 2, none⟩ = some (.slice pA m.phony.length pc) := CW.out.cell 2
          have e0 : u5.cell? ⟨g2, 0, none⟩ = some (.slice none 0 0) := DW.out.cell 0
          have e1 : u5.cell? ⟨g2, 1, none⟩ = some (.slice none 0 0) := DW.out.cell 1
          have e2 : u5.cell? ⟨g2, 2, none⟩ = some (.slice none 0 0) := DW.out.cell 2
          have z0 := DW.out.frozen 0
          have z1 := DW.out.frozen 1
          have z2 := DW.out.frozen 2
          have HO : Hid (∀ a b c, Only (fun b => b = g2) u5 (((u5.setCell ⟨g2, 0, none⟩ a).setCell ⟨g2, 1, none⟩ b).setCell ⟨g2, 2, none⟩ c)) := fun a b c => (((Only.refl _ _).at_ 0 a).at_ 1 b).at_ 2 c
          have HS : Hid (∀ a b c, Cs (((u5.setCell ⟨g2, 0, none⟩ a).setCell ⟨g2, 1, none⟩ b).setCell ⟨g2, 2, none⟩ c) g2 makeT #[a, b, c]) := fun a b c => ((DW.out.set_ 0 a).set_ 1 b).set_ 2 c
          go_wp2_with (first | (refine Mix.wpList_guarded rfl ?_; (repeat' (first | (refine Mix.lex_quiet0 rfl rfl rfl ?_; intro K hK; go_big_quiet_op; go_big_quiet_on) | (refine Mix.lex_quietG rfl rfl rfl (by with_reducible rfl) rfl rfl ?_; intro K hK; go_big_quiet_op; go_big_quiet_on) | ((first | refine Mix.lex_skipT rfl rfl rfl (by with_reducible rfl) ?_ | refine Mix.lex_skipF rfl rfl rfl (by with_reducible rfl) ?_ | refine Mix.lex_skipU rfl rfl rfl (by with_reducible rfl) ?_); simp only [Act.put, List.setIfInBounds_toArray, List.set_cons_succ, List.set_cons_zero]) | (refine Mix.lex_part rfl rfl rfl rfl (fun hq => ?_) (fun hq => ?_) <;> (fail_if_success (guard_hyp hq :ₛ true = true)) <;> (fail_if_success (guard_hyp hq :ₛ false = false)) <;> first | (exfalso; cases hq; done) | (exfalso; simp only [decide_eq_true_eq, decide_eq_false_iff_not, beq_iff_eq, beq_eq_false_iff_ne, ne_eq, Int.not_lt, Int.not_le] at hq; omega) | simp only [Act.put, List.setIfInBounds_toArray, List.set_cons_succ, List.set_cons_zero]))); all_goals (refine Mix.lex_nil ?_)) | (refine Mix.wp_still (by kernel_rfl) (by kernel_rfl) ?_; (repeat' (first | (refine Mix.lex_quiet0 rfl rfl rfl ?_; intro K hK; go_big_quiet_op; go_big_quiet_on) | (refine Mix.lex_quietG rfl rfl rfl (by with_reducible rfl) rfl rfl ?_; intro K hK; go_big_quiet_op; go_big_quiet_on) | ((first | refine Mix.lex_skipT rfl rfl rfl (by with_reducible rfl) ?_ | refine Mix.lex_skipF rfl rfl rfl (by with_reducible rfl) ?_ | refine Mix.lex_skipU rfl rfl rfl (by with_reducible rfl) ?_); simp only [Act.put, List.setIfInBounds_toArray, List.set_cons_succ, List.set_cons_zero]) | (refine Mix.lex_part rfl rfl rfl rfl (fun hq => ?_) (fun hq => ?_) <;> (fail_if_success (guard_hyp hq :ₛ true = true)) <;> (fail_if_success (guard_hyp hq :ₛ false = false)) <;> first | (exfalso; cases hq; done) | (exfalso; simp only [decide_eq_true_eq, decide_eq_false_iff_not, beq_iff_eq, beq_eq_false_iff_ne, ne_eq, Int.not_lt, Int.not_le] at hq; omega) | simp only [Act.put, List.setIfInBounds_toArray, List.set_cons_succ, List.set_cons_zero]))); all_goals (refine Mix.lex_nil ?_)))
          have hl := load_mk (HS.out (.slice vA m.vars.length vc) (.slice rA m.rules.length rc) (.slice pA m.phony.length pc))
          refine bodyPost_cell (p := 2) (u := 3) (ty := makeT) (ad := ⟨g2, 0, none⟩) rfl rfl rfl hl ?_
          rw [HR.out]
          exact ⟨⟨vA, vc, rA, rc, pA, pc⟩, rs, rfl, M5.out.at_ DW.out (HO.out _ _ _), HX.out _ _ (XW.out) (HO.out _ _ _)⟩
        · have gz : decide ((0 : Int) < chkF m) = true := by rw [decide_eq_true_iff]; omega
          have HR : Hid (parseF s = (mk0, chkF m)) := by
            rw [Hid, HP2.out, HFo2.out]
            exact (if_neg (by simp)).trans (if_neg he)
          have e0 : u5.cell? ⟨g2, 0, none⟩ = some (.slice none 0 0) := DW.out.cell 0
          have e1 : u5.cell? ⟨g2, 1, none⟩ = some (.slice none 0 0) := DW.out.cell 1
          have e2 : u5.cell? ⟨g2, 2, none⟩ = some (.slice none 0 0) := DW.out.cell 2
          have z0 := DW.out.frozen 0
          have z1 := DW.out.frozen 1
          have z2 := DW.out.frozen 2
          have HO : Hid (∀ a b c, Only (fun b => b = g2) u5 (((u5.setCell ⟨g2, 0, none⟩ a).setCell ⟨g2, 1, none⟩ b).setCell ⟨g2, 2, none⟩ c)) := fun a b c => (((Only.refl _ _).at_ 0 a).at_ 1 b).at_ 2 c
          have HS : Hid (∀ a b c, Cs (((u5.setCell ⟨g2, 0, none⟩ a).setCell ⟨g2, 1, none⟩ b).setCell ⟨g2, 2, none⟩ c) g2 makeT #[a, b, c]) := fun a b c => ((DW.out.set_ 0 a).set_ 1 b).set_ 2 c
          go_wp2_with (first | (refine Mix.wpList_guarded rfl ?_; (repeat' (first | (refine Mix.lex_quiet0 rfl rfl rfl ?_; intro K hK; go_big_quiet_op; go_big_quiet_on) | (refine Mix.lex_quietG rfl rfl rfl (by with_reducible rfl) rfl rfl ?_; intro K hK; go_big_quiet_op; go_big_quiet_on) | ((first | refine Mix.lex_skipT rfl rfl rfl (by with_reducible rfl) ?_ | refine Mix.lex_skipF rfl rfl rfl (by with_reducible rfl) ?_ | refine Mix.lex_skipU rfl rfl rfl (by with_reducible rfl) ?_); simp only [Act.put, List.setIfInBounds_toArray, List.set_cons_succ, List.set_cons_zero]) | (refine Mix.lex_part rfl rfl rfl rfl (fun hq => ?_) (fun hq => ?_) <;> (fail_if_success (guard_hyp hq :ₛ true = true)) <;> (fail_if_success (guard_hyp hq :ₛ false = false)) <;> first | (exfalso; cases hq; done) | (exfalso; simp only [decide_eq_true_eq, decide_eq_false_iff_not, beq_iff_eq, beq_eq_false_iff_ne, ne_eq, Int.not_lt, Int.not_le] at hq; omega) | simp only [Act.put, List.setIfInBounds_toArray, List.set_cons_succ, List.set_cons_zero]))); all_goals (refine Mix.lex_nil ?_)) | (refine Mix.wp_still (by kernel_rfl) (by kernel_rfl) ?_; (repeat' (first | (refine Mix.lex_quiet0 rfl rfl rfl ?_; intro K hK; go_big_quiet_op; go_big_quiet_on) | (refine Mix.lex_quietG rfl rfl rfl (by with_reducible rfl) rfl rfl ?_; intro K hK; go_big_quiet_op; go_big_quiet_on) | ((first | refine Mix.lex_skipT rfl rfl rfl (by with_reducible rfl) ?_ | refine Mix.lex_skipF rfl rfl rfl (by with_reducible rfl) ?_ | refine Mix.lex_skipU rfl rfl rfl (by with_reducible rfl) ?_); simp only [Act.put, List.setIfInBounds_toArray, List.set_cons_succ, List.set_cons_zero]) | (refine Mix.lex_part rfl rfl rfl rfl (fun hq => ?_) (fun hq => ?_) <;> (fail_if_success (guard_hyp hq :ₛ true = true)) <;> (fail_if_success (guard_hyp hq :ₛ false = false)) <;> first | (exfalso; cases hq; done) | (exfalso; simp only [decide_eq_true_eq, decide_eq_false_iff_not, beq_iff_eq, beq_eq_false_iff_ne, ne_eq, Int.not_lt, Int.not_le] at hq; omega) | simp only [Act.put, List.setIfInBounds_toArray, List.set_cons_succ, List.set_cons_zero]))); all_goals (refine Mix.lex_nil ?_)))
          have hl := load_mk (HS.out (.slice none 0 0) (.slice none 0 0) (.slice none 0 0))
          refine bodyPost_cell (p := 2) (u := 3) (ty := makeT) (ad := ⟨g2, 0, none⟩) rfl rfl rfl hl ?_
          rw [HR.out]
          exact ⟨mkV0, [], rfl, makeS0 _, HX.out _ _ (XW.out) (HO.out _ _ _)⟩
end Go.Proofs.YtianieboefgjbaaDoor
