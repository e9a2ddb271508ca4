/- Put together: MkK. -/
import Derived.Test.YtnhaekifcieeoaaGreatDoorMa15
/- makefile.Check. -/
namespace Go.Proofs.YtnhaekifcieeoaaGreatDoor
open Go Go.RowKit
theorem rule_load {w : World} {b o : Nat} {x y z : Value} (c0 : w.cell? ⟨b, o, none⟩ = some x) (c1 : w.cell? ⟨b, o + 1, none⟩ = some y) (c2 : w.cell? ⟨b, o + 2, none⟩ = some z) : (loadVar ruleT ⟨b, o, none⟩).run Tryz.prog w = .ok (.agg #[x, y, z]) w := by
  go_simp
theorem chkR_cons (ph : List Str) (r : Rul) (rs : List Rul) (made : List Str) : chkR ph (r :: rs) made = if dupF made r.targets = true then none else if ruleOk ph r = true then chkR ph rs (made ++ r.targets) else none := rfl
theorem dupF_cons (made ts : List Str) (t : Str) : dupF made (t :: ts) = (inS made t || dupF (made ++ [t]) ts) := rfl
def ChkRes (w : World) (r : Int) (e : Ending) (w' : World) : Prop := e = .returned (errV r) ∧ Ext w w'
set_option maxRecDepth 100000 in
set_option maxHeartbeats 4000000 in
theorem Check_c {w : World} {v : MkV} {rs : List (RulA × Rul)} {m : Mk} (h : MakeR w v rs m) (hr : m.rules.length ≤ 10) (ht : ∀ x ∈ m.rules, 1 ≤ x.targets.length ∧ x.targets.length ≤ 2) (hp : m.phony.length ≤ 100000) :
    Calls Tryz.prog 45 #[mkV v m] w (ChkRes w (chkF m)) := by
  obtain ⟨vA, vc, rA, rc, pA, pc⟩ := v
  obtain ⟨g1, hg1⟩ : ∃ g, g = w.heap.size := ⟨_, rfl⟩
  obtain ⟨w0, hw0⟩ : ∃ u, u = w.alloc (.cells #[.slice vA m.vars.length vc, .slice rA m.rules.length rc, .slice pA m.phony.length pc] makeT) := ⟨_, rfl⟩
  have x0 : Ext w w0 := by rw [hw0]; exact (Only.refl No w).alloc _
  have C0 : Hid (Cs w0 g1 makeT #[.slice vA m.vars.length vc, .slice rA m.rules.length rc, .slice pA m.phony.length pc]) := by rw [hw0, hg1]; exact Cs.new _ _ _
  have R0 := Lib.hid (h.ext x0)
  have X0 := Lib.hid x0
  have c1 : w0.cell? ⟨g1, 1, none⟩ = some (.slice rA m.rules.length rc) := C0.out.cell 1
  have HTg := Lib.hid ht
  have hrl : rs.length = m.rules.length := by rw [← h.rm, List.length_map]
  have HF : Hid (chkF m = match chkR m.phony m.rules [] with | none => 3 | some made => if m.phony.all (inS made) = true then 0 else 3) := rfl
  clear x0 h ht
  show Calls _ _ #[.agg #[.slice vA m.vars.length vc, .slice rA m.rules.length rc, .slice pA m.phony.length pc]] _ _
  go_enter Tryz.func45, Tryz.ntmps45
  go_upto_region 1 with fail
  rw [← hw0, ← hg1]
  clear hw0 hg1
  go_wp2_with (first | ((first | refine Mix.wpList_guarded rfl ?_ | refine Mix.wp_still (by kernel_rfl) (by kernel_rfl) ?_); (repeat' (first | (refine Mix.lex_quiet0 rfl rfl rfl ?_; intro K hK; go_big_quiet_op; go_big_quiet_on) | (refine Mix.lex_quietG rfl rfl rfl (by with_reducible rfl) rfl rfl ?_; intro K hK; go_big_quiet_op; go_big_quiet_on) | ((first | refine Mix.lex_skipT rfl rfl rfl (by with_reducible rfl) ?_ | refine Mix.lex_skipF rfl rfl rfl (by with_reducible rfl) ?_ | refine Mix.lex_skipU rfl rfl rfl (by with_reducible rfl) ?_); simp only [Act.put, List.setIfInBounds_toArray, List.set_cons_succ, List.set_cons_zero]) | (refine Mix.lex_part rfl rfl rfl rfl (fun hq => ?_) (fun hq => ?_) <;> (fail_if_success (guard_hyp hq :ₛ true = true)) <;> (fail_if_success (guard_hyp hq :ₛ false = false)) <;> first | (exfalso; cases hq; done) | (exfalso; simp only [decide_eq_true_eq, decide_eq_false_iff_not, beq_iff_eq, beq_eq_false_iff_ne, ne_eq, Int.not_lt, Int.not_le] at hq; omega) | simp only [Act.put, List.setIfInBounds_toArray, List.set_cons_succ, List.set_cons_zero]))); all_goals (refine Mix.lex_nil ?_)))
  go_loopw [3, 13] (fun z i wr => ∃ j : Nat, j ≤ m.rules.length ∧ i = .int .i64 j ∧ ∃ L A' c', z = .slice A' L.length c' ∧ Fresh strF 9 w0 wr A' c' L ∧ L.length ≤ 2 * j ∧ chkR m.phony m.rules [] = chkR m.phony (m.rules.drop j) L) (fun _ i _ => m.rules.length - (intOf i).toNat)
  case atStart => exact ⟨0, Nat.zero_le _, rfl, [], none, 0, rfl, Fresh.nil _ _ _ _ (Only.refl _ _), Nat.le_refl _, rfl⟩
  case round =>
    obtain ⟨j, hj, rfl, L, A', c', rfl, hL, hLl, hO⟩ := hrel
    have FL := Lib.hid hL
    have HO := Lib.hid hO
    clear hL hO c1
    by_cases hlt : j < m.rules.length
    · obtain ⟨b, o, x, rfl, hx, hb, k0, k1, k2⟩ := rules_get R0.out.fr hlt
      obtain ⟨⟨tA, tc, nA, nc, cA, cc⟩, r⟩ := x
      have hrx : m.rules[j]? = some r := by rw [← R0.out.rm, List.getElem?_map, hx]; rfl
      have HX := Lib.hid hrx
      have HRR := Lib.hid (R0.out.rr _ (List.mem_of_getElem? hx))
      have HT12 := HTg.out r (List.mem_of_getElem? hrx)
      have q0 := k0 _ FL.out.ext
      have q1 := k1 _ FL.out.ext
      have q2 := k2 _ FL.out.ext
      dsimp only at q0 q1 q2 HRR
      clear hx hrx k0 k1 k2
      obtain ⟨g5, hg5⟩ : ∃ g, g = wr.heap.size := ⟨_, rfl⟩
      obtain ⟨w1, hw1⟩ : ∃ u, u = wr.alloc (.cells #[.slice tA r.targets.length tc, .slice nA r.needs.length nc, .slice cA r.cmds.length cc] ruleT) := ⟨_, rfl⟩
      have x1 : Ext wr w1 := by rw [hw1]; exact (Only.refl No wr).alloc _
      have C5 : Hid (Cs w1 g5 ruleT #[.slice tA r.targets.length tc, .slice nA r.needs.length nc, .slice cA r.cmds.length cc]) := by rw [hw1, hg5]; exact Cs.new _ _ _
      have F1 := Lib.hid (FL.out.on x1)
      have d0 : w1.cell? ⟨g5, 0, none⟩ = some (.slice tA r.targets.length tc) := C5.out.cell 0
      have HG5 : Hid (w0.heap.size ≤ g5) := by rw [Hid, hg5]; exact FL.out.ext.size
      go_upto_region 5 with fail
      rw [← hw1, ← hg5]
      clear hw1 hg5 q0 q1 q2
      have HO2 : Hid (chkR m.phony m.rules [] = if dupF L r.targets = true then none else if ruleOk m.phony r = true then chkR m.phony (m.rules.drop (j + 1)) (L ++ r.targets) else none) := by
        rw [Hid, HO.out, drop_get HX.out, chkR_cons]
      clear HO
      go_wp2_with (first | ((first | refine Mix.wpList_guarded rfl ?_ | refine Mix.wp_still (by kernel_rfl) (by kernel_rfl) ?_); (repeat' (first | (refine Mix.lex_quiet0 rfl rfl rfl ?_; intro K hK; go_big_quiet_op; go_big_quiet_on) | (refine Mix.lex_quietG rfl rfl rfl (by with_reducible rfl) rfl rfl ?_; intro K hK; go_big_quiet_op; go_big_quiet_on) | ((first | refine Mix.lex_skipT rfl rfl rfl (by with_reducible rfl) ?_ | refine Mix.lex_skipF rfl rfl rfl (by with_reducible rfl) ?_ | refine Mix.lex_skipU rfl rfl rfl (by with_reducible rfl) ?_); simp only [Act.put, List.setIfInBounds_toArray, List.set_cons_succ, List.set_cons_zero]) | (refine Mix.lex_part rfl rfl rfl rfl (fun hq => ?_) (fun hq => ?_) <;> (fail_if_success (guard_hyp hq :ₛ true = true)) <;> (fail_if_success (guard_hyp hq :ₛ false = false)) <;> first | (exfalso; cases hq; done) | (exfalso; simp only [decide_eq_true_eq, decide_eq_false_iff_not, beq_iff_eq, beq_eq_false_iff_ne, ne_eq, Int.not_lt, Int.not_le] at hq; omega) | simp only [Act.put, List.setIfInBounds_toArray, List.set_cons_succ, List.set_cons_zero]))); all_goals (refine Mix.lex_nil ?_)))
      go_loopw [3, 20] (fun z i wr => ∃ k : Nat, k ≤ r.targets.length ∧ i = .int .i64 k ∧ ∃ A'' c'', z = .slice A'' (L ++ r.targets.take k).length c'' ∧ Fresh strF 9 w0 wr A'' c'' (L ++ r.targets.take k) ∧ Cs wr g5 ruleT #[.slice tA r.targets.length tc, .slice nA r.needs.length nc, .slice cA r.cmds.length cc] ∧ dupF L r.targets = dupF (L ++ r.targets.take k) (r.targets.drop k)) (fun _ i _ => r.targets.length - (intOf i).toNat)
      case atStart => exact ⟨0, Nat.zero_le _, rfl, A', c', by simp, by simpa using F1.out, C5.out, by simp⟩
      case round =>
        clear F1 C5 d0
        obtain ⟨k, hk, rfl, A2, c2, rfl, hF2, hC2, hD⟩ := hrel
        have F2 := Lib.hid hF2
        have C2 := Lib.hid hC2
        have HD := Lib.hid hD
        clear hF2 hC2 hD
        obtain ⟨L2, hL2⟩ : ∃ l, l = L ++ r.targets.take k := ⟨_, rfl⟩
        rw [← hL2] at F2 HD ⊢
        have HL2 := Lib.hid hL2
        have hL2l : L2.length ≤ 2 * j + 2 := by
          rw [hL2, List.length_append, List.length_take]
          have := HT12.2
          omega
        clear hL2
        by_cases hlk : k < r.targets.length
        · have HS := Lib.hid (HRR.out.1.ext F2.out.ext)
          obtain ⟨b2, o2, t, rfl, htk, cx⟩ := strs_get HS.out hlk
          have HTk := Lib.hid htk
          have HD2 : Hid (dupF L r.targets = (inS L2 t || dupF (L ++ r.targets.take (k + 1)) (r.targets.drop (k + 1)))) := by
            rw [Hid, HD.out, drop_get HTk.out, dupF_cons, take_succ_get HTk.out, ← List.append_assoc, HL2.out]
          have HIn := Lib.hid (Contains_c (c := c2) (F2.out.row (by decide)) (by omega) t)
          clear htk HD
          generalize inS L2 t = b1 at HIn HD2
          have cx' : wr.cell? ⟨b2, o2 + k, none⟩ = some (S t) := cx (X.here _ _)
          have hA9 : (L2 ++ [t]) = L ++ r.targets.take (k + 1) := by rw [HL2.out, take_succ_get HTk.out, List.append_assoc]
          have HA9 := Lib.hid hA9
          clear cx hA9
          go_wp2_with (first | ((first | refine Mix.wpList_guarded rfl ?_ | refine Mix.wp_still (by kernel_rfl) (by kernel_rfl) ?_); (repeat' (first | (refine Mix.lex_quiet0 rfl rfl rfl ?_; intro K hK; go_big_quiet_op; go_big_quiet_on) | (refine Mix.lex_quietG rfl rfl rfl (by with_reducible rfl) rfl rfl ?_; intro K hK; go_big_quiet_op; go_big_quiet_on) | ((first | refine Mix.lex_skipT rfl rfl rfl (by with_reducible rfl) ?_ | refine Mix.lex_skipF rfl rfl rfl (by with_reducible rfl) ?_ | refine Mix.lex_skipU rfl rfl rfl (by with_reducible rfl) ?_); simp only [Act.put, List.setIfInBounds_toArray, List.set_cons_succ, List.set_cons_zero]) | (refine Mix.lex_part rfl rfl rfl rfl (fun hq => ?_) (fun hq => ?_) <;> (fail_if_success (guard_hyp hq :ₛ true = true)) <;> (fail_if_success (guard_hyp hq :ₛ false = false)) <;> first | (exfalso; cases hq; done) | (exfalso; simp only [decide_eq_true_eq, decide_eq_false_iff_not, beq_iff_eq, beq_eq_false_iff_ne, ne_eq, Int.not_lt, Int.not_le] at hq; omega) | simp only [Act.put, List.setIfInBounds_toArray, List.set_cons_succ, List.set_cons_zero]))); all_goals (refine Mix.lex_nil ?_)))
          refine HIn.out.mono ?_
          rintro e u ⟨rfl, hu⟩
          have F3 := Lib.hid (F2.out.on hu)
          have C3 := Lib.hid (C2.out.keep hu id)
          clear hu HIn F2 C2 cx'
          cases b1 with
          | true =>
            have HF2 : Hid (chkF m = 3) := by rw [Hid, HF.out, HO2.out, HD2.out]; rfl
            go_wp2_with (first | ((first | refine Mix.wpList_guarded rfl ?_ | refine Mix.wp_still (by kernel_rfl) (by kernel_rfl) ?_); (repeat' (first | (refine Mix.lex_quiet0 rfl rfl rfl ?_; intro K hK; go_big_quiet_op; go_big_quiet_on) | (refine Mix.lex_quietG rfl rfl rfl (by with_reducible rfl) rfl rfl ?_; intro K hK; go_big_quiet_op; go_big_quiet_on) | ((first | refine Mix.lex_skipT rfl rfl rfl (by with_reducible rfl) ?_ | refine Mix.lex_skipF rfl rfl rfl (by with_reducible rfl) ?_ | refine Mix.lex_skipU rfl rfl rfl (by with_reducible rfl) ?_); simp only [Act.put, List.setIfInBounds_toArray, List.set_cons_succ, List.set_cons_zero]) | (refine Mix.lex_part rfl rfl rfl rfl (fun hq => ?_) (fun hq => ?_) <;> (fail_if_success (guard_hyp hq :ₛ true = true)) <;> (fail_if_success (guard_hyp hq :ₛ false = false)) <;> first | (exfalso; cases hq; done) | (exfalso; simp only [decide_eq_true_eq, decide_eq_false_iff_not, beq_iff_eq, beq_eq_false_iff_ne, ne_eq, Int.not_lt, Int.not_le] at hq; omega) | simp only [Act.put, List.setIfInBounds_toArray, List.set_cons_succ, List.set_cons_zero]))); all_goals (refine Mix.lex_nil ?_)))
            go_ret
            exact ⟨by rw [HF2.out]; rfl, X0.out.then_ext F3.out.ext⟩
          | false =>
            have F4 := Lib.hid (F3.out.on ((Only.refl No u).alloc (.cells #[S t] 9)))
            go_wp2_with (first | (at_builtin; go_must (refine wpList_append (v := .slice A2 L2.length c2) (n := L2.length) (xs := L2.flatMap strF.enc) rfl st_ty rfl rfl rfl F4.out.own (rd_one u _ [S t]) (by simp [Value.oneCell']) (by omega) ?_); intro A4 c4 w5 hown5 hg5 hb5; have F5 := Lib.hid (F4.out.grow (ys := [t]) rfl hown5 hg5 hb5); have C5 := Lib.hid ((C3.out.alloc (.cells #[S t] 9)).keep ((Only.refl (fun b => (Value.slice A2 L2.length c2).ownBlock = some b) _).grown hg5 fun g hg => .inr hg) (fun e => own_ne_cs F4.out.own (C3.out.alloc (.cells #[S t] 9)) (by decide) _ e rfl)); clear hown5 hg5 hb5) | ((first | refine Mix.wpList_guarded rfl ?_ | refine Mix.wp_still (by kernel_rfl) (by kernel_rfl) ?_); (repeat' (first | (refine Mix.lex_quiet0 rfl rfl rfl ?_; intro K hK; go_big_quiet_op; go_big_quiet_on) | (refine Mix.lex_quietG rfl rfl rfl (by with_reducible rfl) rfl rfl ?_; intro K hK; go_big_quiet_op; go_big_quiet_on) | ((first | refine Mix.lex_skipT rfl rfl rfl (by with_reducible rfl) ?_ | refine Mix.lex_skipF rfl rfl rfl (by with_reducible rfl) ?_ | refine Mix.lex_skipU rfl rfl rfl (by with_reducible rfl) ?_); simp only [Act.put, List.setIfInBounds_toArray, List.set_cons_succ, List.set_cons_zero]) | (refine Mix.lex_part rfl rfl rfl rfl (fun hq => ?_) (fun hq => ?_) <;> (fail_if_success (guard_hyp hq :ₛ true = true)) <;> (fail_if_success (guard_hyp hq :ₛ false = false)) <;> first | (exfalso; cases hq; done) | (exfalso; simp only [decide_eq_true_eq, decide_eq_false_iff_not, beq_iff_eq, beq_eq_false_iff_ne, ne_eq, Int.not_lt, Int.not_le] at hq; omega) | simp only [Act.put, List.setIfInBounds_toArray, List.set_cons_succ, List.set_cons_zero]))); all_goals (refine Mix.lex_nil ?_)))
            go_roundw
            case rel => exact ⟨k + 1, by omega, by go_num, A4, c4, by rw [← HA9.out]; simp, by rw [← HA9.out]; exact F5.out, C5.out, by rw [HD2.out]; rfl⟩
            case measure => simp [intOf]; omega
        · obtain rfl : k = r.targets.length := by omega
          have hL3 : L2 = L ++ r.targets := by rw [HL2.out, List.take_of_length_le (Nat.le_refl _)]
          have HO3 : Hid (chkR m.phony m.rules [] = if ruleOk m.phony r = true then chkR m.phony (m.rules.drop (j + 1)) L2 else none) := by
            rw [Hid, HO2.out, HD.out, List.drop_of_length_le (Nat.le_refl _), hL3]
            rfl
          have HL3 := Lib.hid hL3
          clear HD HO2 hL3
          have hl1 : 0 < r.targets.length := HT12.1
          have HS := Lib.hid (HRR.out.1.ext F2.out.ext)
          obtain ⟨b2, o2, t0, rfl, ht0, ca⟩ := strs_get HS.out hl1
          rw [Nat.add_zero] at ca
          have CW := Lib.hid (C0.out.keep F2.out.ext id)
          have D1 : ∀ ξ : X wr No, ξ.v.cell? ⟨g1, 2, none⟩ = some (.slice pA m.phony.length pc) := CW.out.x id 2
          have D2 : ∀ ξ : X wr No, ξ.v.cell? ⟨g5, 0, none⟩ = some (.slice (some ⟨b2, o2, none⟩) r.targets.length tc) := C2.out.x id 0
          have D3 : ∀ ξ : X wr No, ξ.v.cell? ⟨g5, 2, none⟩ = some (.slice cA r.cmds.length cc) := C2.out.x id 2
          have HIn := Lib.hid (fun v (hv : Ext wr v) k => Contains_c (c := pc) ((R0.out.fp.ext F2.out.ext).ext hv) (by omega) k)
          have HRu : Hid (ruleOk m.phony r = ((inS m.phony t0 == decide (r.cmds.length = 0)) && !(decide (1 < r.targets.length) && inS m.phony (r.targets.getD 1 [])))) := by
            have : r.targets.headD [] = t0 := by
              rw [List.headD_eq_head?_getD, List.head?_eq_getElem?, ht0]
              rfl
            rw [Hid, ruleOk, this]
          have HI0 := Lib.hid (fun v hv => HIn.out v hv t0)
          clear ht0
          generalize inS m.phony t0 = b1 at HI0 HRu
          have hd2 : ((r.cmds.length : Int) == 0) = decide (r.cmds.length = 0) := by
            rw [Bool.eq_iff_iff, beq_iff_eq, decide_eq_true_iff]
            omega
          obtain ⟨q2, hq2⟩ : ∃ q, q = decide (r.cmds.length = 0) := ⟨_, rfl⟩
          rw [← hq2] at hd2 HRu
          clear hq2
          by_cases hb : b1 = q2
          · subst hb
            have hbb : (b1 != b1) = false := by simp
            by_cases h1 : 1 < r.targets.length
            · have g1' : decide ((1 : Int) < (r.targets.length : Int)) = true := by rw [decide_eq_true_iff]; omega
              obtain ⟨b3, o3, t1, hA3, ht1, cb⟩ := strs_get HS.out h1
              injection hA3 with hA3
              injection hA3 with hA31 hA32
              subst hA31
              subst hA32
              have HRu2 : Hid (ruleOk m.phony r = !(inS m.phony t1)) := by
                have : r.targets.getD 1 [] = t1 := by rw [List.getD_eq_getElem?_getD, ht1]; rfl
                rw [Hid, HRu.out, this, decide_eq_true h1]
                simp
              have HI1 := Lib.hid (fun v hv => HIn.out v hv t1)
              clear ht1
              generalize inS m.phony t1 = b3 at HI1 HRu2
              go_upto_region 12 with fail
              refine Mix.wp_draw [6, 24] 100 (Cl wr No) (by kernel_rfl) (by kernel_rfl) (Cl.drew_ (X.here wr No)) ?_
              (repeat' (first | (refine Mix.lex_quiet0 rfl rfl rfl ?_; intro K hK; go_big_quiet_op; go_big_quiet_on) | (refine Mix.lex_quietG rfl rfl rfl (by with_reducible rfl) rfl rfl ?_; intro K hK; go_big_quiet_op; go_big_quiet_on) | ((first | refine Mix.lex_skipT rfl rfl rfl (by with_reducible rfl) ?_ | refine Mix.lex_skipF rfl rfl rfl (by with_reducible rfl) ?_ | refine Mix.lex_skipU rfl rfl rfl (by with_reducible rfl) ?_); simp only [Act.put, List.setIfInBounds_toArray, List.set_cons_succ, List.set_cons_zero]) | (refine Mix.lex_part rfl rfl rfl rfl (fun hq => ?_) (fun hq => ?_) <;> (fail_if_success (guard_hyp hq :ₛ true = true)) <;> (fail_if_success (guard_hyp hq :ₛ false = false)) <;> first | (exfalso; cases hq; done) | (exfalso; simp only [decide_eq_true_eq, decide_eq_false_iff_not, beq_iff_eq, beq_eq_false_iff_ne, ne_eq, Int.not_lt, Int.not_le] at hq; omega) | simp only [Act.put, List.setIfInBounds_toArray, List.set_cons_succ, List.set_cons_zero])))
              ((first | refine Mix.lex_goes0 rfl rfl ?_ | refine Mix.lex_goesG rfl rfl rfl (by with_reducible rfl) rfl ?_); intro K hK; go_simp)
              refine (HI0.out _ ((Only.refl No wr).drew)).mono ?_
              rintro e u ⟨rfl, hu⟩
              have U := Lib.hid (((Only.refl No wr).drew).then_ext hu)
              refine ⟨_, rfl, hK _ _ (fun _ => Cl.of U.out) ?_⟩
              clear hK K hu
              simp only [Act.put, List.setIfInBounds_toArray, List.set_cons_succ, List.set_cons_zero]
              (repeat' (first | (refine Mix.lex_quiet0 rfl rfl rfl ?_; intro K hK; go_big_quiet_op; go_big_quiet_on) | (refine Mix.lex_quietG rfl rfl rfl (by with_reducible rfl) rfl rfl ?_; intro K hK; go_big_quiet_op; go_big_quiet_on) | ((first | refine Mix.lex_skipT rfl rfl rfl (by with_reducible rfl) ?_ | refine Mix.lex_skipF rfl rfl rfl (by with_reducible rfl) ?_ | refine Mix.lex_skipU rfl rfl rfl (by with_reducible rfl) ?_); simp only [Act.put, List.setIfInBounds_toArray, List.set_cons_succ, List.set_cons_zero]) | (refine Mix.lex_part rfl rfl rfl rfl (fun hq => ?_) (fun hq => ?_) <;> (fail_if_success (guard_hyp hq :ₛ true = true)) <;> (fail_if_success (guard_hyp hq :ₛ false = false)) <;> first | (exfalso; cases hq; done) | (exfalso; simp only [decide_eq_true_eq, decide_eq_false_iff_not, beq_iff_eq, beq_eq_false_iff_ne, ne_eq, Int.not_lt, Int.not_le] at hq; omega) | simp only [Act.put, List.setIfInBounds_toArray, List.set_cons_succ, List.set_cons_zero])))
              ((first | refine Mix.lex_goes0 rfl rfl ?_ | refine Mix.lex_goesG rfl rfl rfl (by with_reducible rfl) rfl ?_); intro K hK; go_simp)
              refine (HI1.out _ U.out).mono ?_
              rintro e u2 ⟨rfl, hu⟩
              have U2 := Lib.hid (U.out.then_ext hu)
              refine ⟨_, rfl, hK _ _ (fun _ => Cl.of U2.out) ?_⟩
              clear hK K hu
              simp only [Act.put, List.setIfInBounds_toArray, List.set_cons_succ, List.set_cons_zero]
              (repeat' (first | (refine Mix.lex_quiet0 rfl rfl rfl ?_; intro K hK; go_big_quiet_op; go_big_quiet_on) | (refine Mix.lex_quietG rfl rfl rfl (by with_reducible rfl) rfl rfl ?_; intro K hK; go_big_quiet_op; go_big_quiet_on) | ((first | refine Mix.lex_skipT rfl rfl rfl (by with_reducible rfl) ?_ | refine Mix.lex_skipF rfl rfl rfl (by with_reducible rfl) ?_ | refine Mix.lex_skipU rfl rfl rfl (by with_reducible rfl) ?_); simp only [Act.put, List.setIfInBounds_toArray, List.set_cons_succ, List.set_cons_zero]) | (refine Mix.lex_part rfl rfl rfl rfl (fun hq => ?_) (fun hq => ?_) <;> (fail_if_success (guard_hyp hq :ₛ true = true)) <;> (fail_if_success (guard_hyp hq :ₛ false = false)) <;> first | (exfalso; cases hq; done) | (exfalso; simp only [decide_eq_true_eq, decide_eq_false_iff_not, beq_iff_eq, beq_eq_false_iff_ne, ne_eq, Int.not_lt, Int.not_le] at hq; omega) | simp only [Act.put, List.setIfInBounds_toArray, List.set_cons_succ, List.set_cons_zero])))
              refine Mix.lex_nil ?_
              cases b3 with
              | true =>
                have HF2 : Hid (chkF m = 3) := by rw [Hid, HF.out, HO3.out, HRu2.out]; rfl
                go_wp2_with (first | ((first | refine Mix.wpList_guarded rfl ?_ | refine Mix.wp_still (by kernel_rfl) (by kernel_rfl) ?_); (repeat' (first | (refine Mix.lex_quiet0 rfl rfl rfl ?_; intro K hK; go_big_quiet_op; go_big_quiet_on) | (refine Mix.lex_quietG rfl rfl rfl (by with_reducible rfl) rfl rfl ?_; intro K hK; go_big_quiet_op; go_big_quiet_on) | ((first | refine Mix.lex_skipT rfl rfl rfl (by with_reducible rfl) ?_ | refine Mix.lex_skipF rfl rfl rfl (by with_reducible rfl) ?_ | refine Mix.lex_skipU rfl rfl rfl (by with_reducible rfl) ?_); simp only [Act.put, List.setIfInBounds_toArray, List.set_cons_succ, List.set_cons_zero]) | (refine Mix.lex_part rfl rfl rfl rfl (fun hq => ?_) (fun hq => ?_) <;> (fail_if_success (guard_hyp hq :ₛ true = true)) <;> (fail_if_success (guard_hyp hq :ₛ false = false)) <;> first | (exfalso; cases hq; done) | (exfalso; simp only [decide_eq_true_eq, decide_eq_false_iff_not, beq_iff_eq, beq_eq_false_iff_ne, ne_eq, Int.not_lt, Int.not_le] at hq; omega) | simp only [Act.put, List.setIfInBounds_toArray, List.set_cons_succ, List.set_cons_zero]))); all_goals (refine Mix.lex_nil ?_)))
                go_ret
                exact ⟨by rw [HF2.out]; rfl, X0.out.then_ext (F2.out.ext.then_ext U2.out)⟩
              | false =>
                go_wp2_with (first | ((first | refine Mix.wpList_guarded rfl ?_ | refine Mix.wp_still (by kernel_rfl) (by kernel_rfl) ?_); (repeat' (first | (refine Mix.lex_quiet0 rfl rfl rfl ?_; intro K hK; go_big_quiet_op; go_big_quiet_on) | (refine Mix.lex_quietG rfl rfl rfl (by with_reducible rfl) rfl rfl ?_; intro K hK; go_big_quiet_op; go_big_quiet_on) | ((first | refine Mix.lex_skipT rfl rfl rfl (by with_reducible rfl) ?_ | refine Mix.lex_skipF rfl rfl rfl (by with_reducible rfl) ?_ | refine Mix.lex_skipU rfl rfl rfl (by with_reducible rfl) ?_); simp only [Act.put, List.setIfInBounds_toArray, List.set_cons_succ, List.set_cons_zero]) | (refine Mix.lex_part rfl rfl rfl rfl (fun hq => ?_) (fun hq => ?_) <;> (fail_if_success (guard_hyp hq :ₛ true = true)) <;> (fail_if_success (guard_hyp hq :ₛ false = false)) <;> first | (exfalso; cases hq; done) | (exfalso; simp only [decide_eq_true_eq, decide_eq_false_iff_not, beq_iff_eq, beq_eq_false_iff_ne, ne_eq, Int.not_lt, Int.not_le] at hq; omega) | simp only [Act.put, List.setIfInBounds_toArray, List.set_cons_succ, List.set_cons_zero]))); all_goals (refine Mix.lex_nil ?_)))
                go_roundw
                case rel => exact ⟨j + 1, by omega, by go_num, L2, A2, c2, rfl, F2.out.on U2.out, by omega, by rw [HO3.out, HRu2.out, HL3.out]; rfl⟩
                case measure => simp [intOf]; omega
            · have g1' : decide ((1 : Int) < (r.targets.length : Int)) = false := by rw [decide_eq_false_iff_not]; omega
              have HRu2 : Hid (ruleOk m.phony r = true) := by
                rw [Hid, HRu.out, decide_eq_false h1]
                simp
              go_upto_region 12 with fail
              refine Mix.wp_draw [6, 24] 100 (Cl wr No) (by kernel_rfl) (by kernel_rfl) (Cl.drew_ (X.here wr No)) ?_
              (repeat' (first | (refine Mix.lex_quiet0 rfl rfl rfl ?_; intro K hK; go_big_quiet_op; go_big_quiet_on) | (refine Mix.lex_quietG rfl rfl rfl (by with_reducible rfl) rfl rfl ?_; intro K hK; go_big_quiet_op; go_big_quiet_on) | ((first | refine Mix.lex_skipT rfl rfl rfl (by with_reducible rfl) ?_ | refine Mix.lex_skipF rfl rfl rfl (by with_reducible rfl) ?_ | refine Mix.lex_skipU rfl rfl rfl (by with_reducible rfl) ?_); simp only [Act.put, List.setIfInBounds_toArray, List.set_cons_succ, List.set_cons_zero]) | (refine Mix.lex_part rfl rfl rfl rfl (fun hq => ?_) (fun hq => ?_) <;> (fail_if_success (guard_hyp hq :ₛ true = true)) <;> (fail_if_success (guard_hyp hq :ₛ false = false)) <;> first | (exfalso; cases hq; done) | (exfalso; simp only [decide_eq_true_eq, decide_eq_false_iff_not, beq_iff_eq, beq_eq_false_iff_ne, ne_eq, Int.not_lt, Int.not_le] at hq; omega) | simp only [Act.put, List.setIfInBounds_toArray, List.set_cons_succ, List.set_cons_zero])))
              ((first | refine Mix.lex_goes0 rfl rfl ?_ | refine Mix.lex_goesG rfl rfl rfl (by with_reducible rfl) rfl ?_); intro K hK; go_simp)
              refine (HI0.out _ ((Only.refl No wr).drew)).mono ?_
              rintro e u ⟨rfl, hu⟩
              have U := Lib.hid (((Only.refl No wr).drew).then_ext hu)
              refine ⟨_, rfl, hK _ _ (fun _ => Cl.of U.out) ?_⟩
              clear hK K hu
              simp only [Act.put, List.setIfInBounds_toArray, List.set_cons_succ, List.set_cons_zero]
              (repeat' (first | (refine Mix.lex_quiet0 rfl rfl rfl ?_; intro K hK; go_big_quiet_op; go_big_quiet_on) | (refine Mix.lex_quietG rfl rfl rfl (by with_reducible rfl) rfl rfl ?_; intro K hK; go_big_quiet_op; go_big_quiet_on) | ((first | refine Mix.lex_skipT rfl rfl rfl (by with_reducible rfl) ?_ | refine Mix.lex_skipF rfl rfl rfl (by with_reducible rfl) ?_ | refine Mix.lex_skipU rfl rfl rfl (by with_reducible rfl) ?_); simp only [Act.put, List.setIfInBounds_toArray, List.set_cons_succ, List.set_cons_zero]) | (refine Mix.lex_part rfl rfl rfl rfl (fun hq => ?_) (fun hq => ?_) <;> (fail_if_success (guard_hyp hq :ₛ true = true)) <;> (fail_if_success (guard_hyp hq :ₛ false = false)) <;> first | (exfalso; cases hq; done) | (exfalso; simp only [decide_eq_true_eq, decide_eq_false_iff_not, beq_iff_eq, beq_eq_false_iff_ne, ne_eq, Int.not_lt, Int.not_le] at hq; omega) | simp only [Act.put, List.setIfInBounds_toArray, List.set_cons_succ, List.set_cons_zero])))
              refine Mix.lex_nil ?_
              go_wp2_with (first | ((first | refine Mix.wpList_guarded rfl ?_ | refine Mix.wp_still (by kernel_rfl) (by kernel_rfl) ?_); (repeat' (first | (refine Mix.lex_quiet0 rfl rfl rfl ?_; intro K hK; go_big_quiet_op; go_big_quiet_on) | (refine Mix.lex_quietG rfl rfl rfl (by with_reducible rfl) rfl rfl ?_; intro K hK; go_big_quiet_op; go_big_quiet_on) | ((first | refine Mix.lex_skipT rfl rfl rfl (by with_reducible rfl) ?_ | refine Mix.lex_skipF rfl rfl rfl (by with_reducible rfl) ?_ | refine Mix.lex_skipU rfl rfl rfl (by with_reducible rfl) ?_); simp only [Act.put, List.setIfInBounds_toArray, List.set_cons_succ, List.set_cons_zero]) | (refine Mix.lex_part rfl rfl rfl rfl (fun hq => ?_) (fun hq => ?_) <;> (fail_if_success (guard_hyp hq :ₛ true = true)) <;> (fail_if_success (guard_hyp hq :ₛ false = false)) <;> first | (exfalso; cases hq; done) | (exfalso; simp only [decide_eq_true_eq, decide_eq_false_iff_not, beq_iff_eq, beq_eq_false_iff_ne, ne_eq, Int.not_lt, Int.not_le] at hq; omega) | simp only [Act.put, List.setIfInBounds_toArray, List.set_cons_succ, List.set_cons_zero]))); all_goals (refine Mix.lex_nil ?_)))
              go_roundw
              case rel => exact ⟨j + 1, by omega, by go_num, L2, A2, c2, rfl, F2.out.on U.out, by omega, by rw [HO3.out, HRu2.out, HL3.out]; rfl⟩
              case measure => simp [intOf]; omega
          · have hbq : (b1 = true ∧ q2 = false) ∨ (b1 = false ∧ q2 = true) := by
              clear HI0 HRu hd2
              revert hb
              cases b1 <;> cases q2 <;> simp
            rcases hbq with ⟨rfl, rfl⟩ | ⟨rfl, rfl⟩ <;>
            · have HRu2 : Hid (ruleOk m.phony r = false) := by
                rw [Hid, HRu.out]
                rfl
              go_upto_region 12 with fail
              refine Mix.wp_draw [6, 24] 100 (Cl wr No) (by kernel_rfl) (by kernel_rfl) (Cl.drew_ (X.here wr No)) ?_
              (repeat' (first | (refine Mix.lex_quiet0 rfl rfl rfl ?_; intro K hK; go_big_quiet_op; go_big_quiet_on) | (refine Mix.lex_quietG rfl rfl rfl (by with_reducible rfl) rfl rfl ?_; intro K hK; go_big_quiet_op; go_big_quiet_on) | ((first | refine Mix.lex_skipT rfl rfl rfl (by with_reducible rfl) ?_ | refine Mix.lex_skipF rfl rfl rfl (by with_reducible rfl) ?_ | refine Mix.lex_skipU rfl rfl rfl (by with_reducible rfl) ?_); simp only [Act.put, List.setIfInBounds_toArray, List.set_cons_succ, List.set_cons_zero]) | (refine Mix.lex_part rfl rfl rfl rfl (fun hq => ?_) (fun hq => ?_) <;> (fail_if_success (guard_hyp hq :ₛ true = true)) <;> (fail_if_success (guard_hyp hq :ₛ false = false)) <;> first | (exfalso; cases hq; done) | (exfalso; simp only [decide_eq_true_eq, decide_eq_false_iff_not, beq_iff_eq, beq_eq_false_iff_ne, ne_eq, Int.not_lt, Int.not_le] at hq; omega) | simp only [Act.put, List.setIfInBounds_toArray, List.set_cons_succ, List.set_cons_zero])))
              ((first | refine Mix.lex_goes0 rfl rfl ?_ | refine Mix.lex_goesG rfl rfl rfl (by with_reducible rfl) rfl ?_); intro K hK; go_simp)
              refine (HI0.out _ ((Only.refl No wr).drew)).mono ?_
              rintro e u ⟨rfl, hu⟩
              have U := Lib.hid (((Only.refl No wr).drew).then_ext hu)
              refine ⟨_, rfl, hK _ _ (fun _ => Cl.of U.out) ?_⟩
              clear hK K hu
              simp only [Act.put, List.setIfInBounds_toArray, List.set_cons_succ, List.set_cons_zero]
              (repeat' (first | (refine Mix.lex_quiet0 rfl rfl rfl ?_; intro K hK; go_big_quiet_op; go_big_quiet_on) | (refine Mix.lex_quietG rfl rfl rfl (by with_reducible rfl) rfl rfl ?_; intro K hK; go_big_quiet_op; go_big_quiet_on) | ((first | refine Mix.lex_skipT rfl rfl rfl (by with_reducible rfl) ?_ | refine Mix.lex_skipF rfl rfl rfl (by with_reducible rfl) ?_ | refine Mix.lex_skipU rfl rfl rfl (by with_reducible rfl) ?_); simp only [Act.put, List.setIfInBounds_toArray, List.set_cons_succ, List.set_cons_zero]) | (refine Mix.lex_part rfl rfl rfl rfl (fun hq => ?_) (fun hq => ?_) <;> (fail_if_success (guard_hyp hq :ₛ true = true)) <;> (fail_if_success (guard_hyp hq :ₛ false = false)) <;> first | (exfalso; cases hq; done) | (exfalso; simp only [decide_eq_true_eq, decide_eq_false_iff_not, beq_iff_eq, beq_eq_false_iff_ne, ne_eq, Int.not_lt, Int.not_le] at hq; omega) | simp only [Act.put, List.setIfInBounds_toArray, List.set_cons_succ, List.set_cons_zero])))
              refine Mix.lex_nil ?_
              have HF2 : Hid (chkF m = 3) := by rw [Hid, HF.out, HO3.out, HRu2.out]; rfl
              go_wp2_with (first | ((first | refine Mix.wpList_guarded rfl ?_ | refine Mix.wp_still (by kernel_rfl) (by kernel_rfl) ?_); (repeat' (first | (refine Mix.lex_quiet0 rfl rfl rfl ?_; intro K hK; go_big_quiet_op; go_big_quiet_on) | (refine Mix.lex_quietG rfl rfl rfl (by with_reducible rfl) rfl rfl ?_; intro K hK; go_big_quiet_op; go_big_quiet_on) | ((first | refine Mix.lex_skipT rfl rfl rfl (by with_reducible rfl) ?_ | refine Mix.lex_skipF rfl rfl rfl (by with_reducible rfl) ?_ | refine Mix.lex_skipU rfl rfl rfl (by with_reducible rfl) ?_); simp only [Act.put, List.setIfInBounds_toArray, List.set_cons_succ, List.set_cons_zero]) | (refine Mix.lex_part rfl rfl rfl rfl (fun hq => ?_) (fun hq => ?_) <;> (fail_if_success (guard_hyp hq :ₛ true = true)) <;> (fail_if_success (guard_hyp hq :ₛ false = false)) <;> first | (exfalso; cases hq; done) | (exfalso; simp only [decide_eq_true_eq, decide_eq_false_iff_not, beq_iff_eq, beq_eq_false_iff_ne, ne_eq, Int.not_lt, Int.not_le] at hq; omega) | simp only [Act.put, List.setIfInBounds_toArray, List.set_cons_succ, List.set_cons_zero]))); all_goals (refine Mix.lex_nil ?_)))
              go_ret
              exact ⟨by rw [HF2.out]; rfl, X0.out.then_ext (F2.out.ext.then_ext U.out)⟩
    · obtain rfl : j = m.rules.length := by omega
      have HC : Hid (chkF m = if m.phony.all (inS L) = true then 0 else 3) := by
        rw [Hid, HF.out, HO.out, List.drop_of_length_le (Nat.le_refl _)]
        rfl
      have CW := Lib.hid (C0.out.keep FL.out.ext id)
      have c2 : wr.cell? ⟨g1, 2, none⟩ = some (.slice pA m.phony.length pc) := CW.out.cell 2
      have XW := Lib.hid FL.out.ext
      have SL := Lib.hid (FL.out.row (by decide))
      have SP := Lib.hid (R0.out.fp.ext FL.out.ext)
      dsimp only at SP
      clear HO CW FL HF
      go_wp2_with (first | ((first | refine Mix.wpList_guarded rfl ?_ | refine Mix.wp_still (by kernel_rfl) (by kernel_rfl) ?_); (repeat' (first | (refine Mix.lex_quiet0 rfl rfl rfl ?_; intro K hK; go_big_quiet_op; go_big_quiet_on) | (refine Mix.lex_quietG rfl rfl rfl (by with_reducible rfl) rfl rfl ?_; intro K hK; go_big_quiet_op; go_big_quiet_on) | ((first | refine Mix.lex_skipT rfl rfl rfl (by with_reducible rfl) ?_ | refine Mix.lex_skipF rfl rfl rfl (by with_reducible rfl) ?_ | refine Mix.lex_skipU rfl rfl rfl (by with_reducible rfl) ?_); simp only [Act.put, List.setIfInBounds_toArray, List.set_cons_succ, List.set_cons_zero]) | (refine Mix.lex_part rfl rfl rfl rfl (fun hq => ?_) (fun hq => ?_) <;> (fail_if_success (guard_hyp hq :ₛ true = true)) <;> (fail_if_success (guard_hyp hq :ₛ false = false)) <;> first | (exfalso; cases hq; done) | (exfalso; simp only [decide_eq_true_eq, decide_eq_false_iff_not, beq_iff_eq, beq_eq_false_iff_ne, ne_eq, Int.not_lt, Int.not_le] at hq; omega) | simp only [Act.put, List.setIfInBounds_toArray, List.set_cons_succ, List.set_cons_zero]))); all_goals (refine Mix.lex_nil ?_)))
      go_loopw [65] (fun i wq => ∃ k : Nat, k ≤ m.phony.length ∧ i = .int .i64 k ∧ (m.phony.take k).all (inS L) = true ∧ ∃ ξ : X wr No, wq = ξ.v) (fun i _ => m.phony.length - (intOf i).toNat)
      case atStart => exact ⟨0, Nat.zero_le _, rfl, rfl, X.here _ _, rfl⟩
      case round =>
        obtain ⟨k, hk, rfl, hT, ξ, rfl⟩ := hrel
        have HT := Lib.hid hT
        clear hT c2
        by_cases hlk : k < m.phony.length
        · obtain ⟨b, o, f, rfl, hx, c0⟩ := strs_get (w := wr) SP.out hlk
          have HX := Lib.hid hx
          have HIn := Lib.hid (fun v (hv : Ext wr v) => Contains_c (c := c') (SL.out.ext hv) (by omega) f)
          obtain ⟨p, hp⟩ : ∃ p, inS L f = p := ⟨_, rfl⟩
          rw [hp] at HIn
          have HP := Lib.hid hp
          clear hx hp
          go_wp2_with (first | ((first | refine Mix.wpList_guarded rfl ?_ | refine Mix.wp_still (by kernel_rfl) (by kernel_rfl) ?_); (repeat' (first | (refine Mix.lex_quiet0 rfl rfl rfl ?_; intro K hK; go_big_quiet_op; go_big_quiet_on) | (refine Mix.lex_quietG rfl rfl rfl (by with_reducible rfl) rfl rfl ?_; intro K hK; go_big_quiet_op; go_big_quiet_on) | ((first | refine Mix.lex_skipT rfl rfl rfl (by with_reducible rfl) ?_ | refine Mix.lex_skipF rfl rfl rfl (by with_reducible rfl) ?_ | refine Mix.lex_skipU rfl rfl rfl (by with_reducible rfl) ?_); simp only [Act.put, List.setIfInBounds_toArray, List.set_cons_succ, List.set_cons_zero]) | (refine Mix.lex_part rfl rfl rfl rfl (fun hq => ?_) (fun hq => ?_) <;> (fail_if_success (guard_hyp hq :ₛ true = true)) <;> (fail_if_success (guard_hyp hq :ₛ false = false)) <;> first | (exfalso; cases hq; done) | (exfalso; simp only [decide_eq_true_eq, decide_eq_false_iff_not, beq_iff_eq, beq_eq_false_iff_ne, ne_eq, Int.not_lt, Int.not_le] at hq; omega) | simp only [Act.put, List.setIfInBounds_toArray, List.set_cons_succ, List.set_cons_zero]))); all_goals (refine Mix.lex_nil ?_)))
          refine (HIn.out _ ξ.h).mono ?_
          rintro e u ⟨rfl, hu⟩
          have U := Lib.hid (ξ.h.then_ext hu)
          clear hu HIn
          cases p with
          | true =>
            go_wp2_with (first | ((first | refine Mix.wpList_guarded rfl ?_ | refine Mix.wp_still (by kernel_rfl) (by kernel_rfl) ?_); (repeat' (first | (refine Mix.lex_quiet0 rfl rfl rfl ?_; intro K hK; go_big_quiet_op; go_big_quiet_on) | (refine Mix.lex_quietG rfl rfl rfl (by with_reducible rfl) rfl rfl ?_; intro K hK; go_big_quiet_op; go_big_quiet_on) | ((first | refine Mix.lex_skipT rfl rfl rfl (by with_reducible rfl) ?_ | refine Mix.lex_skipF rfl rfl rfl (by with_reducible rfl) ?_ | refine Mix.lex_skipU rfl rfl rfl (by with_reducible rfl) ?_); simp only [Act.put, List.setIfInBounds_toArray, List.set_cons_succ, List.set_cons_zero]) | (refine Mix.lex_part rfl rfl rfl rfl (fun hq => ?_) (fun hq => ?_) <;> (fail_if_success (guard_hyp hq :ₛ true = true)) <;> (fail_if_success (guard_hyp hq :ₛ false = false)) <;> first | (exfalso; cases hq; done) | (exfalso; simp only [decide_eq_true_eq, decide_eq_false_iff_not, beq_iff_eq, beq_eq_false_iff_ne, ne_eq, Int.not_lt, Int.not_le] at hq; omega) | simp only [Act.put, List.setIfInBounds_toArray, List.set_cons_succ, List.set_cons_zero]))); all_goals (refine Mix.lex_nil ?_)))
            go_roundw
            case rel => exact ⟨k + 1, by omega, by go_num, by rw [take_succ_get HX.out, List.all_append, HT.out]; simp [HP.out], ⟨_, U.out⟩, rfl⟩
            case measure => simp [intOf]; omega
          | false =>
            have HF2 : Hid (chkF m = 3) := HC.out.trans (if_neg (fun h => by
              have := List.all_eq_true.1 h f (List.mem_of_getElem? HX.out)
              rw [HP.out] at this
              cases this))
            go_wp2_with (first | ((first | refine Mix.wpList_guarded rfl ?_ | refine Mix.wp_still (by kernel_rfl) (by kernel_rfl) ?_); (repeat' (first | (refine Mix.lex_quiet0 rfl rfl rfl ?_; intro K hK; go_big_quiet_op; go_big_quiet_on) | (refine Mix.lex_quietG rfl rfl rfl (by with_reducible rfl) rfl rfl ?_; intro K hK; go_big_quiet_op; go_big_quiet_on) | ((first | refine Mix.lex_skipT rfl rfl rfl (by with_reducible rfl) ?_ | refine Mix.lex_skipF rfl rfl rfl (by with_reducible rfl) ?_ | refine Mix.lex_skipU rfl rfl rfl (by with_reducible rfl) ?_); simp only [Act.put, List.setIfInBounds_toArray, List.set_cons_succ, List.set_cons_zero]) | (refine Mix.lex_part rfl rfl rfl rfl (fun hq => ?_) (fun hq => ?_) <;> (fail_if_success (guard_hyp hq :ₛ true = true)) <;> (fail_if_success (guard_hyp hq :ₛ false = false)) <;> first | (exfalso; cases hq; done) | (exfalso; simp only [decide_eq_true_eq, decide_eq_false_iff_not, beq_iff_eq, beq_eq_false_iff_ne, ne_eq, Int.not_lt, Int.not_le] at hq; omega) | simp only [Act.put, List.setIfInBounds_toArray, List.set_cons_succ, List.set_cons_zero]))); all_goals (refine Mix.lex_nil ?_)))
            go_ret
            exact ⟨by rw [HF2.out]; rfl, X0.out.then_ext (XW.out.then_ext U.out)⟩
        · obtain rfl : k = m.phony.length := by omega
          have HF2 : Hid (chkF m = 0) := HC.out.trans (if_pos (by
            have := HT.out
            rwa [List.take_of_length_le (Nat.le_refl _)] at this))
          go_wp2_with (first | ((first | refine Mix.wpList_guarded rfl ?_ | refine Mix.wp_still (by kernel_rfl) (by kernel_rfl) ?_); (repeat' (first | (refine Mix.lex_quiet0 rfl rfl rfl ?_; intro K hK; go_big_quiet_op; go_big_quiet_on) | (refine Mix.lex_quietG rfl rfl rfl (by with_reducible rfl) rfl rfl ?_; intro K hK; go_big_quiet_op; go_big_quiet_on) | ((first | refine Mix.lex_skipT rfl rfl rfl (by with_reducible rfl) ?_ | refine Mix.lex_skipF rfl rfl rfl (by with_reducible rfl) ?_ | refine Mix.lex_skipU rfl rfl rfl (by with_reducible rfl) ?_); simp only [Act.put, List.setIfInBounds_toArray, List.set_cons_succ, List.set_cons_zero]) | (refine Mix.lex_part rfl rfl rfl rfl (fun hq => ?_) (fun hq => ?_) <;> (fail_if_success (guard_hyp hq :ₛ true = true)) <;> (fail_if_success (guard_hyp hq :ₛ false = false)) <;> first | (exfalso; cases hq; done) | (exfalso; simp only [decide_eq_true_eq, decide_eq_false_iff_not, beq_iff_eq, beq_eq_false_iff_ne, ne_eq, Int.not_lt, Int.not_le] at hq; omega) | simp only [Act.put, List.setIfInBounds_toArray, List.set_cons_succ, List.set_cons_zero]))); all_goals (refine Mix.lex_nil ?_)))
          go_ret
          exact ⟨by rw [HF2.out]; rfl, X0.out.then_ext (XW.out.then_ext ξ.h)⟩
end Go.Proofs.YtnhaekifcieeoaaGreatDoor
