/- Put together: MkN, MkK, MkP, Gx1. -/
import Derived.Test.YtnhaekifcieeoaaGreatDoorPk10
import Derived.Test.YtnhaekifcieeoaaGreatDoorPk02
import Derived.Test.YtnhaekifcieeoaaGreatDoorPk08
import Derived.Test.YtnhaekifcieeoaaGreatDoorPk04
import Derived.Laws.ResultCell
import Derived.Test.YtnhaekifcieeoaaGreatDoorPk09
namespace Go.Proofs.YtnhaekifcieeoaaGreatDoor
open Go Go.RowKit
theorem CutPre_c (s p : Str) (w : World) : Calls Tryz.prog 66 #[S s, S p] w fun e w' => e = .returned (.tuple #[S (Lib.trimPrefix s p), .bool (Lib.hasPrefix s p)]) ∧ Ext w w' := by
  refine (Tryz.strings_CutPrefix ⟨s.toArray⟩ ⟨p.toArray⟩ w).mono ?_
  rintro e w' ⟨rfl, rfl⟩
  exact ⟨rfl, Only.refl _ _⟩
theorem byte_eq (x c : UInt8) : (((x.toNat : Int)) == ((c.toNat : Int))) = decide (x = c) := by
  rw [Bool.eq_iff_iff, beq_iff_eq, decide_eq_true_iff]
  exact ⟨fun h => UInt8.toNat_inj.1 (by omega), fun h => by rw [h]⟩
set_option maxRecDepth 100000 in
set_option maxHeartbeats 4000000 in
theorem Line_c {Q : List SRow} {w wr : World} {g : Nat} {v : MkV} {rs : List (RulA × Rul)} {m : Mk} {k : Nat} (hm : Ml w) (h : MAt Q w wr g v rs m) (hf : m.Fit k) (hk : k ≤ 100000) (s : Str) (hs : s.length ≤ 600) :
    Calls Tryz.prog 44 #[ptr g, S s] wr (MkRes Q w g (lineF m s)) := by
  have P := Lib.hid h
  cases s with
  | nil =>
    go_enter Tryz.func44, Tryz.ntmps44
    go_wp2_with fail
    go_ret
    exact ⟨v, rs, rfl, P.out⟩
  | cons x r =>
    have HF := Lib.hid (lineF_cons m x r)
    have HCm := Lib.hid (Command_c hm h hf r (by simp at hs; omega))
    have HHd := Lib.hid (fun u (hu : MAt Q w u g v rs m) => Header_c hm hu hf (x :: r) hs)
    have HPr := Lib.hid (fun v => CutPre_c (x :: r) phonyT v)
    have HCt := Lib.hid (fun v (hv : Ext w v) => SCut_c (x :: r) eqT (by omega) (hm.ext hv))
    have hp := hf.p
    have hv := hf.v
    clear h hf
    by_cases h35 : x = 35
    · have q1 : (((x.toNat : Int)) == 35) = true := (byte_eq x 35).trans (decide_eq_true h35)
      have HF2 := Lib.hid (HF.out.trans (if_pos h35))
      go_enter Tryz.func44, Tryz.ntmps44
      go_wp2_with fail
      go_ret
      exact ⟨v, rs, by rw [HF2.out]; rfl, by rw [HF2.out]; exact P.out⟩
    · have q1 : (((x.toNat : Int)) == 35) = false := (byte_eq x 35).trans (decide_eq_false h35)
      have HF2 := Lib.hid (HF.out.trans (if_neg h35))
      clear HF
      by_cases h9 : x = 9
      · have q2 : (((x.toNat : Int)) == 9) = true := (byte_eq x 9).trans (decide_eq_true h9)
        have HF3 := Lib.hid (HF2.out.trans (if_pos h9))
        subst h9
        go_enter Tryz.func44, Tryz.ntmps44
        go_wp2_with fail
        refine HCm.out.mono ?_
        rintro e u ⟨v', rs', rfl, hM⟩
        have M2 := Lib.hid hM
        clear hM HCm
        go_wp2_with fail
        go_ret
        exact ⟨v', rs', by rw [HF3.out]; rfl, by rw [HF3.out]; exact M2.out⟩
      · have q2 : (((x.toNat : Int)) == 9) = false := (byte_eq x 9).trans (decide_eq_false h9)
        have HF3 := Lib.hid (HF2.out.trans (if_neg h9))
        clear HF2 HCm
        have HTr : Hid (Lib.hasPrefix (x :: r) phonyT = true → Lib.trimPrefix (x :: r) phonyT = (x :: r).drop 6) := fun h => by
          unfold Lib.trimPrefix
          rw [if_pos h]
          rfl
        generalize Lib.hasPrefix (x :: r) phonyT = hp6 at HPr HF3 HTr
        generalize Lib.trimPrefix (x :: r) phonyT = name at HPr HTr
        go_enter Tryz.func44, Tryz.ntmps44
        go_wp2_with fail
        refine (HPr.out _).mono ?_
        rintro e u ⟨rfl, hu⟩
        have P1 := Lib.hid (P.out.ext hu)
        clear hu HPr P
        cases hp6 with
        | true =>
          have hn : name = (x :: r).drop 6 := HTr.out rfl
          have HF4 := Lib.hid (HF3.out.trans (if_pos rfl))
          rw [← hn] at HF4
          have hnl : name.length ≤ 600 := by rw [hn, List.length_drop]; omega
          clear hn HTr HF3 HCt HHd
          have HNm := Lib.hid (fun v => Name_c name v (by omega))
          have HIn := Lib.hid (fun z (hv : Ext u z) => Contains_c (c := v.pc) (((P1.out.ss.f ⟨v.pA, v.pc, m.phony⟩ (by simp)).row (by decide)).ext hv) (by show m.phony.length ≤ _; omega) name)
          have HF5 : Hid (lineF m (x :: r) = if nameB name = false ∨ inS m.phony name = true then (m, 3) else (⟨m.vars, m.rules, m.phony ++ [name]⟩, 0)) := HF4.out
          clear HF4
          generalize nameB name = b1 at HNm HF5
          generalize inS m.phony name = b2 at HIn HF5
          cases b1 with
          | false =>
            have HF6 := Lib.hid (HF5.out.trans (if_pos (.inl rfl)))
            go_wp2_with fail
            refine (HNm.out _).mono ?_
            rintro e u2 ⟨rfl, hu⟩
            have P2 := Lib.hid (P1.out.ext hu)
            clear hu HNm P1
            go_wp2_with fail
            go_ret
            exact ⟨v, rs, by rw [HF6.out]; rfl, by rw [HF6.out]; exact P2.out⟩
          | true =>
            go_wp2_with fail
            refine (HNm.out _).mono ?_
            rintro e u2 ⟨rfl, hu⟩
            have P2 := Lib.hid (P1.out.ext hu)
            have U2 := Lib.hid hu
            have c2 : u2.cell? ⟨g, 2, none⟩ = some (.slice v.pA m.phony.length v.pc) := P2.out.rc.cell 2
            clear hu HNm P1
            go_wp2_with fail
            refine (HIn.out _ U2.out).mono ?_
            rintro e u3 ⟨rfl, hu⟩
            have P3 := Lib.hid (P2.out.ext hu)
            clear hu HIn P2 U2 c2
            cases b2 with
            | true =>
              have HF6 := Lib.hid (HF5.out.trans (if_pos (.inr rfl)))
              go_wp2_with fail
              go_ret
              exact ⟨v, rs, by rw [HF6.out]; rfl, by rw [HF6.out]; exact P3.out⟩
            | false =>
              have HF6 := Lib.hid (HF5.out.trans (if_neg (by simp)))
              clear HF5
              have c3 : u3.cell? ⟨g, 2, none⟩ = some (.slice v.pA m.phony.length v.pc) := P3.out.rc.cell 2
              have P4 := Lib.hid (P3.out.ext ((Only.refl No u3).alloc (.cells #[S name] 9)))
              go_wp2_with (first | (at_builtin; go_must (refine wpList_append (v := .slice v.pA m.phony.length v.pc) (n := m.phony.length) (xs := m.phony.flatMap strF.enc) rfl st_ty rfl rfl rfl (P4.out.ss.f ⟨v.pA, v.pc, m.phony⟩ (by simp)).own (rd_one u3 _ [S name]) (by simp [Value.oneCell']) (by omega) ?_); intro A2 c2 w5 hown5 hg5 hb5; have P9 := Lib.hid (P4.out.growP (t := name) hown5 hg5 hb5); have C9 := P4.out.rc.keep ((Only.refl (fun b => (Value.slice v.pA m.phony.length v.pc).ownBlock = some b) _).grown hg5 fun g hg => .inr hg) (fun e => own_ne_cs (P4.out.ss.f ⟨v.pA, v.pc, m.phony⟩ (by simp)).own P4.out.rc (by decide) _ e rfl); have z1 := C9.frozen 2; have y1 : w5.cell? ⟨g, 2, none⟩ = some (.slice v.pA m.phony.length v.pc) := C9.cell 2; clear hown5 hg5 hb5 C9) | ((first | refine Mix.wpList_guarded rfl ?_ | refine Mix.wp_still (by kernel_rfl) (by kernel_rfl) ?_); (repeat' (first | (refine Mix.lex_quiet0 rfl rfl rfl ?_; intro K hK; go_big_quiet_op; go_big_quiet_on) | (refine Mix.lex_quietG rfl rfl rfl (by with_reducible rfl) rfl rfl ?_; intro K hK; go_big_quiet_op; go_big_quiet_on) | ((first | refine Mix.lex_skipT rfl rfl rfl (by with_reducible rfl) ?_ | refine Mix.lex_skipF rfl rfl rfl (by with_reducible rfl) ?_ | refine Mix.lex_skipU rfl rfl rfl (by with_reducible rfl) ?_); simp only [Act.put, List.setIfInBounds_toArray, List.set_cons_succ, List.set_cons_zero]) | (refine Mix.lex_part rfl rfl rfl rfl (fun hq => ?_) (fun hq => ?_) <;> (fail_if_success (guard_hyp hq :ₛ true = true)) <;> (fail_if_success (guard_hyp hq :ₛ false = false)) <;> first | (exfalso; cases hq; done) | (exfalso; simp only [decide_eq_true_eq, decide_eq_false_iff_not, beq_iff_eq, beq_eq_false_iff_ne, ne_eq, Int.not_lt, Int.not_le] at hq; omega) | simp only [Act.put, List.setIfInBounds_toArray, List.set_cons_succ, List.set_cons_zero]))); all_goals (refine Mix.lex_nil ?_)))
              go_ret
              exact ⟨_, _, by rw [HF6.out]; rfl, by rw [HF6.out]; exact P9.out⟩
        | false =>
          have HF4 := Lib.hid (HF3.out.trans (if_neg (by decide)))
          have hcl := cut_len (x :: r) eqT
          have hcl2 : (x :: r).length ≤ 600 := hs
          have hM1 := hm.ext P1.out.x
          have HCt1 := Lib.hid (HCt.out u P1.out.x)
          clear HF3 HTr HCt
          generalize Lib.cut (x :: r) eqT = q at HCt1 HF4 hcl
          obtain ⟨a, b, is⟩ := q
          dsimp only at HCt1 HF4 hcl
          go_wp2_with fail
          refine HCt1.out.mono ?_
          rintro e u1 ⟨rfl, hu⟩
          have P2 := Lib.hid (P1.out.ext hu)
          clear hu HCt1 P1
          cases is with
          | true =>
            have HF5 : Hid (lineF m (x :: r) = if varB a = false then (m, 3) else if m.vars.length = 6 then (m, 2) else (⟨m.vars ++ [(a, b)], m.rules, m.phony⟩, 0)) := HF4.out.trans (if_pos rfl)
            have HVr := Lib.hid (fun v => Var_c a (by omega) v)
            clear HF4 HHd
            generalize varB a = b1 at HVr HF5
            go_wp2_with fail
            refine (HVr.out _).mono ?_
            rintro e u2 ⟨rfl, hu⟩
            have P3 := Lib.hid (P2.out.ext hu)
            clear hu HVr P2
            cases b1 with
            | false =>
              have HF6 := Lib.hid (HF5.out.trans (if_pos rfl))
              go_wp2_with fail
              go_ret
              exact ⟨v, rs, by rw [HF6.out]; rfl, by rw [HF6.out]; exact P3.out⟩
            | true =>
              have HF6 := Lib.hid (HF5.out.trans (if_neg (by decide)))
              have c3 : u2.cell? ⟨g, 0, none⟩ = some (.slice v.vA m.vars.length v.vc) := P3.out.rc.cell 0
              clear HF5
              by_cases h6 : m.vars.length = 6
              · have g6 : decide ((m.vars.length : Int) = 6) = true := by rw [decide_eq_true_iff]; omega
                have HF7 := Lib.hid (HF6.out.trans (if_pos h6))
                go_wp2_with fail
                go_ret
                exact ⟨v, rs, by rw [HF7.out]; rfl, by rw [HF7.out]; exact P3.out⟩
              · have g6 : decide ((m.vars.length : Int) = 6) = false := by rw [decide_eq_false_iff_not]; omega
                have HF7 := Lib.hid (HF6.out.trans (if_neg h6))
                have P4 := Lib.hid (P3.out.ext ((Only.refl No u2).alloc (.cells #[S a, S b] varT)))
                go_wp2_with (first | (at_builtin; go_must (refine wpList_append (v := .slice v.vA m.vars.length v.vc) (n := m.vars.length) (xs := m.vars.flatMap fileF.enc) rfl vr_ty rfl rfl rfl P4.out.fv.own (rd_one u2 _ [S a, S b]) (by simp [Value.oneCell']) (by omega) ?_); intro A2 c2 w5 hown5 hg5 hb5; have P9 := Lib.hid (P4.out.growV (t := (a, b)) hown5 hg5 hb5); have C9 := P4.out.rc.keep ((Only.refl (fun b => (Value.slice v.vA m.vars.length v.vc).ownBlock = some b) _).grown hg5 fun g hg => .inr hg) (fun e => own_ne_cs P4.out.fv.own P4.out.rc (by decide) _ e rfl); have z1 := C9.frozen 0; have y1 : w5.cell? ⟨g, 0, none⟩ = some (.slice v.vA m.vars.length v.vc) := C9.cell 0; clear hown5 hg5 hb5 C9) | ((first | refine Mix.wpList_guarded rfl ?_ | refine Mix.wp_still (by kernel_rfl) (by kernel_rfl) ?_); (repeat' (first | (refine Mix.lex_quiet0 rfl rfl rfl ?_; intro K hK; go_big_quiet_op; go_big_quiet_on) | (refine Mix.lex_quietG rfl rfl rfl (by with_reducible rfl) rfl rfl ?_; intro K hK; go_big_quiet_op; go_big_quiet_on) | ((first | refine Mix.lex_skipT rfl rfl rfl (by with_reducible rfl) ?_ | refine Mix.lex_skipF rfl rfl rfl (by with_reducible rfl) ?_ | refine Mix.lex_skipU rfl rfl rfl (by with_reducible rfl) ?_); simp only [Act.put, List.setIfInBounds_toArray, List.set_cons_succ, List.set_cons_zero]) | (refine Mix.lex_part rfl rfl rfl rfl (fun hq => ?_) (fun hq => ?_) <;> (fail_if_success (guard_hyp hq :ₛ true = true)) <;> (fail_if_success (guard_hyp hq :ₛ false = false)) <;> first | (exfalso; cases hq; done) | (exfalso; simp only [decide_eq_true_eq, decide_eq_false_iff_not, beq_iff_eq, beq_eq_false_iff_ne, ne_eq, Int.not_lt, Int.not_le] at hq; omega) | simp only [Act.put, List.setIfInBounds_toArray, List.set_cons_succ, List.set_cons_zero]))); all_goals (refine Mix.lex_nil ?_)))
                go_ret
                exact ⟨_, _, by rw [HF7.out]; rfl, by rw [HF7.out]; exact P9.out⟩
          | false =>
            have HF5 := Lib.hid (HF4.out.trans (if_neg (by decide)))
            go_wp2_with fail
            refine (HHd.out _ P2.out).mono ?_
            rintro e u2 ⟨v', rs', rfl, hM⟩
            have M2 := Lib.hid hM
            clear hM HHd
            go_wp2_with fail
            go_ret
            exact ⟨v', rs', by rw [HF5.out]; rfl, by rw [HF5.out]; exact M2.out⟩
theorem chkR_cons (ph : List Str) (r : Rul) (rs : List Rul) (made : List Str) : chkR ph (r :: rs) made = if dupF made r.targets = true then none else if ruleOk ph r = true then chkR ph rs (made ++ r.targets) else none := rfl
theorem dupF_cons (made ts : List Str) (t : Str) : dupF made (t :: ts) = (inS made t || dupF (made ++ [t]) ts) := rfl
def ChkRes (w : World) (r : Int) (e : Ending) (w' : World) : Prop := e = .returned (errV r) ∧ Ext w w'
set_option maxRecDepth 100000 in
set_option maxHeartbeats 4000000 in
theorem Check_c {w : World} {v : MkV} {rs : List (RulA × Rul)} {m : Mk} (h : MakeR w v rs m) (hr : m.rules.length ≤ 10) (ht : ∀ x ∈ m.rules, 1 ≤ x.targets.length ∧ x.targets.length ≤ 2) (hp : m.phony.length ≤ 100000) :
    Calls Tryz.prog 45 #[mkV v m] w (ChkRes w (chkF m)) := by
  obtain ⟨vA, vc, rA, rc, pA, pc⟩ := v
  obtain ⟨g1, hg1⟩ : ∃ g, g = w.heap.size := ⟨_, rfl⟩
  obtain ⟨w0, hw0⟩ : ∃ u, u = w.alloc (.cells #[.slice vA m.vars.length vc, .slice rA m.rules.length rc, .slice pA m.phony.length pc] makeT) := ⟨_, rfl⟩
  have x0 : Ext w w0 := by rw [hw0]; exact (Only.refl No w).alloc _
  have C0 : Hid (Cs w0 g1 makeT #[.slice vA m.vars.length vc, .slice rA m.rules.length rc, .slice pA m.phony.length pc]) := by rw [hw0, hg1]; exact Cs.new _ _ _
  have R0 := Lib.hid (h.ext x0)
  have X0 := Lib.hid x0
  have c1 : w0.cell? ⟨g1, 1, none⟩ = some (.slice rA m.rules.length rc) := C0.out.cell 1
  have HTg := Lib.hid ht
  have hrl : rs.length = m.rules.length := by rw [← h.rm, List.length_map]
  have HF : Hid (chkF m = match chkR m.phony m.rules [] with | none => 3 | some made => if m.phony.all (inS made) = true then 0 else 3) := rfl
  clear x0 h ht
  show Calls _ _ #[.agg #[.slice vA m.vars.length vc, .slice rA m.rules.length rc, .slice pA m.phony.length pc]] _ _
  go_enter Tryz.func45, Tryz.ntmps45
  go_upto_region 1 with fail
  rw [← hw0, ← hg1]
  clear hw0 hg1
  go_wp2_with fail
  go_loopw [3, 13] (fun z i wr => ∃ j : Nat, j ≤ m.rules.length ∧ i = .int .i64 j ∧ ∃ L A' c', z = .slice A' L.length c' ∧ Fresh strF 9 w0 wr A' c' L ∧ L.length ≤ 2 * j ∧ chkR m.phony m.rules [] = chkR m.phony (m.rules.drop j) L) (fun _ i _ => m.rules.length - (intOf i).toNat)
  case atStart => exact ⟨0, Nat.zero_le _, rfl, [], none, 0, rfl, Fresh.nil _ _ _ _ (Only.refl _ _), Nat.le_refl _, rfl⟩
  case round =>
    obtain ⟨j, hj, rfl, L, A', c', rfl, hL, hLl, hO⟩ := hrel
    have FL := Lib.hid hL
    have HO := Lib.hid hO
    clear hL hO c1
    by_cases hlt : j < m.rules.length
    · obtain ⟨b, o, x, rfl, hx, hb, k0, k1, k2⟩ := rules_get R0.out.fr hlt
      obtain ⟨⟨tA, tc, nA, nc, cA, cc⟩, r⟩ := x
      have hrx : m.rules[j]? = some r := by rw [← R0.out.rm, List.getElem?_map, hx]; rfl
      have HX := Lib.hid hrx
      have HRR := Lib.hid (R0.out.rr _ (List.mem_of_getElem? hx))
      have HT12 := HTg.out r (List.mem_of_getElem? hrx)
      have q0 := k0 _ FL.out.ext
      have q1 := k1 _ FL.out.ext
      have q2 := k2 _ FL.out.ext
      dsimp only at q0 q1 q2 HRR
      clear hx hrx k0 k1 k2
      obtain ⟨g5, hg5⟩ : ∃ g, g = wr.heap.size := ⟨_, rfl⟩
      obtain ⟨w1, hw1⟩ : ∃ u, u = wr.alloc (.cells #[.slice tA r.targets.length tc, .slice nA r.needs.length nc, .slice cA r.cmds.length cc] ruleT) := ⟨_, rfl⟩
      have x1 : Ext wr w1 := by rw [hw1]; exact (Only.refl No wr).alloc _
      have C5 : Hid (Cs w1 g5 ruleT #[.slice tA r.targets.length tc, .slice nA r.needs.length nc, .slice cA r.cmds.length cc]) := by rw [hw1, hg5]; exact Cs.new _ _ _
      have F1 := Lib.hid (FL.out.on x1)
      have d0 : w1.cell? ⟨g5, 0, none⟩ = some (.slice tA r.targets.length tc) := C5.out.cell 0
      have HG5 : Hid (w0.heap.size ≤ g5) := by rw [Hid, hg5]; exact FL.out.ext.size
      go_upto_region 5 with fail
      rw [← hw1, ← hg5]
      clear hw1 hg5 q0 q1 q2
      have HO2 : Hid (chkR m.phony m.rules [] = if dupF L r.targets = true then none else if ruleOk m.phony r = true then chkR m.phony (m.rules.drop (j + 1)) (L ++ r.targets) else none) := by
        rw [Hid, HO.out, drop_get HX.out, chkR_cons]
      clear HO
      go_wp2_with fail
      go_loopw [3, 20] (fun z i wr => ∃ k : Nat, k ≤ r.targets.length ∧ i = .int .i64 k ∧ ∃ A'' c'', z = .slice A'' (L ++ r.targets.take k).length c'' ∧ Fresh strF 9 w0 wr A'' c'' (L ++ r.targets.take k) ∧ Cs wr g5 ruleT #[.slice tA r.targets.length tc, .slice nA r.needs.length nc, .slice cA r.cmds.length cc] ∧ dupF L r.targets = dupF (L ++ r.targets.take k) (r.targets.drop k)) (fun _ i _ => r.targets.length - (intOf i).toNat)
      case atStart => exact ⟨0, Nat.zero_le _, rfl, A', c', by simp, by simpa using F1.out, C5.out, by simp⟩
      case round =>
        clear F1 C5 d0
        obtain ⟨k, hk, rfl, A2, c2, rfl, hF2, hC2, hD⟩ := hrel
        have F2 := Lib.hid hF2
        have C2 := Lib.hid hC2
        have HD := Lib.hid hD
        clear hF2 hC2 hD
        obtain ⟨L2, hL2⟩ : ∃ l, l = L ++ r.targets.take k := ⟨_, rfl⟩
        rw [← hL2] at F2 HD ⊢
        have HL2 := Lib.hid hL2
        have hL2l : L2.length ≤ 2 * j + 2 := by
          rw [hL2, List.length_append, List.length_take]
          have := HT12.2
          omega
        clear hL2
        by_cases hlk : k < r.targets.length
        · have HS := Lib.hid (HRR.out.1.ext F2.out.ext)
          obtain ⟨b2, o2, t, rfl, htk, cx⟩ := strs_get HS.out hlk
          have HTk := Lib.hid htk
          have HD2 : Hid (dupF L r.targets = (inS L2 t || dupF (L ++ r.targets.take (k + 1)) (r.targets.drop (k + 1)))) := by
            rw [Hid, HD.out, drop_get HTk.out, dupF_cons, take_succ_get HTk.out, ← List.append_assoc, HL2.out]
          have HIn := Lib.hid (Contains_c (c := c2) (F2.out.row (by decide)) (by omega) t)
          clear htk HD
          generalize inS L2 t = b1 at HIn HD2
          have cx' : wr.cell? ⟨b2, o2 + k, none⟩ = some (S t) := cx (X.here _ _)
          have hA9 : (L2 ++ [t]) = L ++ r.targets.take (k + 1) := by rw [HL2.out, take_succ_get HTk.out, List.append_assoc]
          have HA9 := Lib.hid hA9
          clear cx hA9
          go_wp2_with fail
          refine HIn.out.mono ?_
          rintro e u ⟨rfl, hu⟩
          have F3 := Lib.hid (F2.out.on hu)
          have C3 := Lib.hid (C2.out.keep hu id)
          clear hu HIn F2 C2 cx'
          cases b1 with
          | true =>
            have HF2 : Hid (chkF m = 3) := by rw [Hid, HF.out, HO2.out, HD2.out]; rfl
            go_wp2_with fail
            go_ret
            exact ⟨by rw [HF2.out]; rfl, X0.out.then_ext F3.out.ext⟩
          | false =>
            have F4 := Lib.hid (F3.out.on ((Only.refl No u).alloc (.cells #[S t] 9)))
            go_wp2_with (first | (at_builtin; go_must (refine wpList_append (v := .slice A2 L2.length c2) (n := L2.length) (xs := L2.flatMap strF.enc) rfl st_ty rfl rfl rfl F4.out.own (rd_one u _ [S t]) (by simp [Value.oneCell']) (by omega) ?_); intro A4 c4 w5 hown5 hg5 hb5; have F5 := Lib.hid (F4.out.grow (ys := [t]) rfl hown5 hg5 hb5); have C5 := Lib.hid ((C3.out.alloc (.cells #[S t] 9)).keep ((Only.refl (fun b => (Value.slice A2 L2.length c2).ownBlock = some b) _).grown hg5 fun g hg => .inr hg) (fun e => own_ne_cs F4.out.own (C3.out.alloc (.cells #[S t] 9)) (by decide) _ e rfl)); clear hown5 hg5 hb5) | ((first | refine Mix.wpList_guarded rfl ?_ | refine Mix.wp_still (by kernel_rfl) (by kernel_rfl) ?_); (repeat' (first | (refine Mix.lex_quiet0 rfl rfl rfl ?_; intro K hK; go_big_quiet_op; go_big_quiet_on) | (refine Mix.lex_quietG rfl rfl rfl (by with_reducible rfl) rfl rfl ?_; intro K hK; go_big_quiet_op; go_big_quiet_on) | ((first | refine Mix.lex_skipT rfl rfl rfl (by with_reducible rfl) ?_ | refine Mix.lex_skipF rfl rfl rfl (by with_reducible rfl) ?_ | refine Mix.lex_skipU rfl rfl rfl (by with_reducible rfl) ?_); simp only [Act.put, List.setIfInBounds_toArray, List.set_cons_succ, List.set_cons_zero]) | (refine Mix.lex_part rfl rfl rfl rfl (fun hq => ?_) (fun hq => ?_) <;> (fail_if_success (guard_hyp hq :ₛ true = true)) <;> (fail_if_success (guard_hyp hq :ₛ false = false)) <;> first | (exfalso; cases hq; done) | (exfalso; simp only [decide_eq_true_eq, decide_eq_false_iff_not, beq_iff_eq, beq_eq_false_iff_ne, ne_eq, Int.not_lt, Int.not_le] at hq; omega) | simp only [Act.put, List.setIfInBounds_toArray, List.set_cons_succ, List.set_cons_zero]))); all_goals (refine Mix.lex_nil ?_)))
            go_roundw
            case rel => exact ⟨k + 1, by omega, by go_num, A4, c4, by rw [← HA9.out]; simp, by rw [← HA9.out]; exact F5.out, C5.out, by rw [HD2.out]; rfl⟩
            case measure => simp [intOf]; omega
        · obtain rfl : k = r.targets.length := by omega
          have hL3 : L2 = L ++ r.targets := by rw [HL2.out, List.take_of_length_le (Nat.le_refl _)]
          have HO3 : Hid (chkR m.phony m.rules [] = if ruleOk m.phony r = true then chkR m.phony (m.rules.drop (j + 1)) L2 else none) := by
            rw [Hid, HO2.out, HD.out, List.drop_of_length_le (Nat.le_refl _), hL3]
            rfl
          have HL3 := Lib.hid hL3
          clear HD HO2 hL3
          have hl1 : 0 < r.targets.length := HT12.1
          have HS := Lib.hid (HRR.out.1.ext F2.out.ext)
          obtain ⟨b2, o2, t0, rfl, ht0, ca⟩ := strs_get HS.out hl1
          rw [Nat.add_zero] at ca
          have CW := Lib.hid (C0.out.keep F2.out.ext id)
          have D1 : ∀ ξ : X wr No, ξ.v.cell? ⟨g1, 2, none⟩ = some (.slice pA m.phony.length pc) := CW.out.x id 2
          have D2 : ∀ ξ : X wr No, ξ.v.cell? ⟨g5, 0, none⟩ = some (.slice (some ⟨b2, o2, none⟩) r.targets.length tc) := C2.out.x id 0
          have D3 : ∀ ξ : X wr No, ξ.v.cell? ⟨g5, 2, none⟩ = some (.slice cA r.cmds.length cc) := C2.out.x id 2
          have HIn := Lib.hid (fun v (hv : Ext wr v) k => Contains_c (c := pc) ((R0.out.fp.ext F2.out.ext).ext hv) (by omega) k)
          have HRu : Hid (ruleOk m.phony r = ((inS m.phony t0 == decide (r.cmds.length = 0)) && !(decide (1 < r.targets.length) && inS m.phony (r.targets.getD 1 [])))) := by
            have : r.targets.headD [] = t0 := by
              rw [List.headD_eq_head?_getD, List.head?_eq_getElem?, ht0]
              rfl
            rw [Hid, ruleOk, this]
          have HI0 := Lib.hid (fun v hv => HIn.out v hv t0)
          clear ht0
          generalize inS m.phony t0 = b1 at HI0 HRu
          have hd2 : ((r.cmds.length : Int) == 0) = decide (r.cmds.length = 0) := by
            rw [Bool.eq_iff_iff, beq_iff_eq, decide_eq_true_iff]
            omega
          obtain ⟨q2, hq2⟩ : ∃ q, q = decide (r.cmds.length = 0) := ⟨_, rfl⟩
          rw [← hq2] at hd2 HRu
          clear hq2
          by_cases hb : b1 = q2
          · subst hb
            have hbb : (b1 != b1) = false := by simp
            by_cases h1 : 1 < r.targets.length
            · have g1' : decide ((1 : Int) < (r.targets.length : Int)) = true := by rw [decide_eq_true_iff]; omega
              obtain ⟨b3, o3, t1, hA3, ht1, cb⟩ := strs_get HS.out h1
              injection hA3 with hA3
              injection hA3 with hA31 hA32
              subst hA31
              subst hA32
              have HRu2 : Hid (ruleOk m.phony r = !(inS m.phony t1)) := by
                have : r.targets.getD 1 [] = t1 := by rw [List.getD_eq_getElem?_getD, ht1]; rfl
                rw [Hid, HRu.out, this, decide_eq_true h1]
                simp
              have HI1 := Lib.hid (fun v hv => HIn.out v hv t1)
              clear ht1
              generalize inS m.phony t1 = b3 at HI1 HRu2
              go_upto_region 12 with fail
              refine Mix.wp_draw [6, 24] 100 (Cl wr No) (by kernel_rfl) (by kernel_rfl) (Cl.drew_ (X.here wr No)) ?_
              (repeat' (refine Mix.lex_quiet0 rfl rfl rfl ?_; intro K hK; go_big_quiet_op; go_big_quiet_on))
              ((first | refine Mix.lex_goes0 rfl rfl ?_ | refine Mix.lex_goesG rfl rfl rfl (by with_reducible rfl) rfl ?_); intro K hK; go_simp)
              refine (HI0.out _ ((Only.refl No wr).drew)).mono ?_
              rintro e u ⟨rfl, hu⟩
              have U := Lib.hid (((Only.refl No wr).drew).then_ext hu)
              refine ⟨_, rfl, hK _ _ (fun _ => Cl.of U.out) ?_⟩
              clear hK K hu
              simp only [Act.put, List.setIfInBounds_toArray, List.set_cons_succ, List.set_cons_zero]
              (repeat' (first | (refine Mix.lex_quiet0 rfl rfl rfl ?_; intro K hK; go_big_quiet_op; go_big_quiet_on) | (refine Mix.lex_quietG rfl rfl rfl (by with_reducible rfl) rfl rfl ?_; intro K hK; go_big_quiet_op; go_big_quiet_on) | ((first | refine Mix.lex_skipT rfl rfl rfl (by with_reducible rfl) ?_ | refine Mix.lex_skipF rfl rfl rfl (by with_reducible rfl) ?_ | refine Mix.lex_skipU rfl rfl rfl (by with_reducible rfl) ?_); simp only [Act.put, List.setIfInBounds_toArray, List.set_cons_succ, List.set_cons_zero]) | (refine Mix.lex_part rfl rfl rfl rfl (fun hq => ?_) (fun hq => ?_) <;> (fail_if_success (guard_hyp hq :ₛ true = true)) <;> (fail_if_success (guard_hyp hq :ₛ false = false)) <;> first | (exfalso; cases hq; done) | (exfalso; simp only [decide_eq_true_eq, decide_eq_false_iff_not, beq_iff_eq, beq_eq_false_iff_ne, ne_eq, Int.not_lt, Int.not_le] at hq; omega) | simp only [Act.put, List.setIfInBounds_toArray, List.set_cons_succ, List.set_cons_zero])))
              ((first | refine Mix.lex_goes0 rfl rfl ?_ | refine Mix.lex_goesG rfl rfl rfl (by with_reducible rfl) rfl ?_); intro K hK; go_simp)
              refine (HI1.out _ U.out).mono ?_
              rintro e u2 ⟨rfl, hu⟩
              have U2 := Lib.hid (U.out.then_ext hu)
              refine ⟨_, rfl, hK _ _ (fun _ => Cl.of U2.out) ?_⟩
              clear hK K hu
              simp only [Act.put, List.setIfInBounds_toArray, List.set_cons_succ, List.set_cons_zero]
              (repeat' (first | (refine Mix.lex_quiet0 rfl rfl rfl ?_; intro K hK; go_big_quiet_op; go_big_quiet_on) | (refine Mix.lex_quietG rfl rfl rfl (by with_reducible rfl) rfl rfl ?_; intro K hK; go_big_quiet_op; go_big_quiet_on) | ((first | refine Mix.lex_skipT rfl rfl rfl (by with_reducible rfl) ?_ | refine Mix.lex_skipF rfl rfl rfl (by with_reducible rfl) ?_ | refine Mix.lex_skipU rfl rfl rfl (by with_reducible rfl) ?_); simp only [Act.put, List.setIfInBounds_toArray, List.set_cons_succ, List.set_cons_zero]) | (refine Mix.lex_part rfl rfl rfl rfl (fun hq => ?_) (fun hq => ?_) <;> (fail_if_success (guard_hyp hq :ₛ true = true)) <;> (fail_if_success (guard_hyp hq :ₛ false = false)) <;> first | (exfalso; cases hq; done) | (exfalso; simp only [decide_eq_true_eq, decide_eq_false_iff_not, beq_iff_eq, beq_eq_false_iff_ne, ne_eq, Int.not_lt, Int.not_le] at hq; omega) | simp only [Act.put, List.setIfInBounds_toArray, List.set_cons_succ, List.set_cons_zero])))
              refine Mix.lex_nil ?_
              cases b3 with
              | true =>
                have HF2 : Hid (chkF m = 3) := by rw [Hid, HF.out, HO3.out, HRu2.out]; rfl
                go_wp2_with fail
                go_ret
                exact ⟨by rw [HF2.out]; rfl, X0.out.then_ext (F2.out.ext.then_ext U2.out)⟩
              | false =>
                go_wp2_with fail
                go_roundw
                case rel => exact ⟨j + 1, by omega, by go_num, L2, A2, c2, rfl, F2.out.on U2.out, by omega, by rw [HO3.out, HRu2.out, HL3.out]; rfl⟩
                case measure => simp [intOf]; omega
            · have g1' : decide ((1 : Int) < (r.targets.length : Int)) = false := by rw [decide_eq_false_iff_not]; omega
              have HRu2 : Hid (ruleOk m.phony r = true) := by
                rw [Hid, HRu.out, decide_eq_false h1]
                simp
              go_upto_region 12 with fail
              refine Mix.wp_draw [6, 24] 100 (Cl wr No) (by kernel_rfl) (by kernel_rfl) (Cl.drew_ (X.here wr No)) ?_
              (repeat' (refine Mix.lex_quiet0 rfl rfl rfl ?_; intro K hK; go_big_quiet_op; go_big_quiet_on))
              ((first | refine Mix.lex_goes0 rfl rfl ?_ | refine Mix.lex_goesG rfl rfl rfl (by with_reducible rfl) rfl ?_); intro K hK; go_simp)
              refine (HI0.out _ ((Only.refl No wr).drew)).mono ?_
              rintro e u ⟨rfl, hu⟩
              have U := Lib.hid (((Only.refl No wr).drew).then_ext hu)
              refine ⟨_, rfl, hK _ _ (fun _ => Cl.of U.out) ?_⟩
              clear hK K hu
              simp only [Act.put, List.setIfInBounds_toArray, List.set_cons_succ, List.set_cons_zero]
              (repeat' (first | (refine Mix.lex_quiet0 rfl rfl rfl ?_; intro K hK; go_big_quiet_op; go_big_quiet_on) | (refine Mix.lex_quietG rfl rfl rfl (by with_reducible rfl) rfl rfl ?_; intro K hK; go_big_quiet_op; go_big_quiet_on) | ((first | refine Mix.lex_skipT rfl rfl rfl (by with_reducible rfl) ?_ | refine Mix.lex_skipF rfl rfl rfl (by with_reducible rfl) ?_ | refine Mix.lex_skipU rfl rfl rfl (by with_reducible rfl) ?_); simp only [Act.put, List.setIfInBounds_toArray, List.set_cons_succ, List.set_cons_zero]) | (refine Mix.lex_part rfl rfl rfl rfl (fun hq => ?_) (fun hq => ?_) <;> (fail_if_success (guard_hyp hq :ₛ true = true)) <;> (fail_if_success (guard_hyp hq :ₛ false = false)) <;> first | (exfalso; cases hq; done) | (exfalso; simp only [decide_eq_true_eq, decide_eq_false_iff_not, beq_iff_eq, beq_eq_false_iff_ne, ne_eq, Int.not_lt, Int.not_le] at hq; omega) | simp only [Act.put, List.setIfInBounds_toArray, List.set_cons_succ, List.set_cons_zero])))
              refine Mix.lex_nil ?_
              go_wp2_with fail
              go_roundw
              case rel => exact ⟨j + 1, by omega, by go_num, L2, A2, c2, rfl, F2.out.on U.out, by omega, by rw [HO3.out, HRu2.out, HL3.out]; rfl⟩
              case measure => simp [intOf]; omega
          · have hbq : (b1 = true ∧ q2 = false) ∨ (b1 = false ∧ q2 = true) := by
              clear HI0 HRu hd2
              revert hb
              cases b1 <;> cases q2 <;> simp
            rcases hbq with ⟨rfl, rfl⟩ | ⟨rfl, rfl⟩ <;>
            · have HRu2 : Hid (ruleOk m.phony r = false) := by
                rw [Hid, HRu.out]
                rfl
              go_upto_region 12 with fail
              refine Mix.wp_draw [6, 24] 100 (Cl wr No) (by kernel_rfl) (by kernel_rfl) (Cl.drew_ (X.here wr No)) ?_
              (repeat' (first | (refine Mix.lex_quiet0 rfl rfl rfl ?_; intro K hK; go_big_quiet_op; go_big_quiet_on) | (refine Mix.lex_quietG rfl rfl rfl (by with_reducible rfl) rfl rfl ?_; intro K hK; go_big_quiet_op; go_big_quiet_on) | ((first | refine Mix.lex_skipT rfl rfl rfl (by with_reducible rfl) ?_ | refine Mix.lex_skipF rfl rfl rfl (by with_reducible rfl) ?_ | refine Mix.lex_skipU rfl rfl rfl (by with_reducible rfl) ?_); simp only [Act.put, List.setIfInBounds_toArray, List.set_cons_succ, List.set_cons_zero]) | (refine Mix.lex_part rfl rfl rfl rfl (fun hq => ?_) (fun hq => ?_) <;> (fail_if_success (guard_hyp hq :ₛ true = true)) <;> (fail_if_success (guard_hyp hq :ₛ false = false)) <;> first | (exfalso; cases hq; done) | (exfalso; simp only [decide_eq_true_eq, decide_eq_false_iff_not, beq_iff_eq, beq_eq_false_iff_ne, ne_eq, Int.not_lt, Int.not_le] at hq; omega) | simp only [Act.put, List.setIfInBounds_toArray, List.set_cons_succ, List.set_cons_zero])))
              ((first | refine Mix.lex_goes0 rfl rfl ?_ | refine Mix.lex_goesG rfl rfl rfl (by with_reducible rfl) rfl ?_); intro K hK; go_simp)
              refine (HI0.out _ ((Only.refl No wr).drew)).mono ?_
              rintro e u ⟨rfl, hu⟩
              have U := Lib.hid (((Only.refl No wr).drew).then_ext hu)
              refine ⟨_, rfl, hK _ _ (fun _ => Cl.of U.out) ?_⟩
              clear hK K hu
              simp only [Act.put, List.setIfInBounds_toArray, List.set_cons_succ, List.set_cons_zero]
              (repeat' (first | (refine Mix.lex_quiet0 rfl rfl rfl ?_; intro K hK; go_big_quiet_op; go_big_quiet_on) | (refine Mix.lex_quietG rfl rfl rfl (by with_reducible rfl) rfl rfl ?_; intro K hK; go_big_quiet_op; go_big_quiet_on) | ((first | refine Mix.lex_skipT rfl rfl rfl (by with_reducible rfl) ?_ | refine Mix.lex_skipF rfl rfl rfl (by with_reducible rfl) ?_ | refine Mix.lex_skipU rfl rfl rfl (by with_reducible rfl) ?_); simp only [Act.put, List.setIfInBounds_toArray, List.set_cons_succ, List.set_cons_zero]) | (refine Mix.lex_part rfl rfl rfl rfl (fun hq => ?_) (fun hq => ?_) <;> (fail_if_success (guard_hyp hq :ₛ true = true)) <;> (fail_if_success (guard_hyp hq :ₛ false = false)) <;> first | (exfalso; cases hq; done) | (exfalso; simp only [decide_eq_true_eq, decide_eq_false_iff_not, beq_iff_eq, beq_eq_false_iff_ne, ne_eq, Int.not_lt, Int.not_le] at hq; omega) | simp only [Act.put, List.setIfInBounds_toArray, List.set_cons_succ, List.set_cons_zero])))
              refine Mix.lex_nil ?_
              have HF2 : Hid (chkF m = 3) := by rw [Hid, HF.out, HO3.out, HRu2.out]; rfl
              go_wp2_with fail
              go_ret
              exact ⟨by rw [HF2.out]; rfl, X0.out.then_ext (F2.out.ext.then_ext U.out)⟩
    · obtain rfl : j = m.rules.length := by omega
      have HC : Hid (chkF m = if m.phony.all (inS L) = true then 0 else 3) := by
        rw [Hid, HF.out, HO.out, List.drop_of_length_le (Nat.le_refl _)]
        rfl
      have CW := Lib.hid (C0.out.keep FL.out.ext id)
      have c2 : wr.cell? ⟨g1, 2, none⟩ = some (.slice pA m.phony.length pc) := CW.out.cell 2
      have XW := Lib.hid FL.out.ext
      have SL := Lib.hid (FL.out.row (by decide))
      have SP := Lib.hid (R0.out.fp.ext FL.out.ext)
      dsimp only at SP
      clear HO CW FL HF
      go_wp2_with fail
      go_loopw [65] (fun i wq => ∃ k : Nat, k ≤ m.phony.length ∧ i = .int .i64 k ∧ (m.phony.take k).all (inS L) = true ∧ ∃ ξ : X wr No, wq = ξ.v) (fun i _ => m.phony.length - (intOf i).toNat)
      case atStart => exact ⟨0, Nat.zero_le _, rfl, rfl, X.here _ _, rfl⟩
      case round =>
        obtain ⟨k, hk, rfl, hT, ξ, rfl⟩ := hrel
        have HT := Lib.hid hT
        clear hT c2
        by_cases hlk : k < m.phony.length
        · obtain ⟨b, o, f, rfl, hx, c0⟩ := strs_get (w := wr) SP.out hlk
          have HX := Lib.hid hx
          have HIn := Lib.hid (fun v (hv : Ext wr v) => Contains_c (c := c') (SL.out.ext hv) (by omega) f)
          obtain ⟨p, hp⟩ : ∃ p, inS L f = p := ⟨_, rfl⟩
          rw [hp] at HIn
          have HP := Lib.hid hp
          clear hx hp
          go_wp2_with fail
          refine (HIn.out _ ξ.h).mono ?_
          rintro e u ⟨rfl, hu⟩
          have U := Lib.hid (ξ.h.then_ext hu)
          clear hu HIn
          cases p with
          | true =>
            go_wp2_with fail
            go_roundw
            case rel => exact ⟨k + 1, by omega, by go_num, by rw [take_succ_get HX.out, List.all_append, HT.out]; simp [HP.out], ⟨_, U.out⟩, rfl⟩
            case measure => simp [intOf]; omega
          | false =>
            have HF2 : Hid (chkF m = 3) := HC.out.trans (if_neg (fun h => by
              have := List.all_eq_true.1 h f (List.mem_of_getElem? HX.out)
              rw [HP.out] at this
              cases this))
            go_wp2_with fail
            go_ret
            exact ⟨by rw [HF2.out]; rfl, X0.out.then_ext (XW.out.then_ext U.out)⟩
        · obtain rfl : k = m.phony.length := by omega
          have HF2 : Hid (chkF m = 0) := HC.out.trans (if_pos (by
            have := HT.out
            rwa [List.take_of_length_le (Nat.le_refl _)] at this))
          go_wp2_with fail
          go_ret
          exact ⟨by rw [HF2.out]; rfl, X0.out.then_ext (XW.out.then_ext ξ.h)⟩
theorem load_mk {w : World} {b : Nat} {x y z : Value} (h : Cs w b makeT #[x, y, z]) : (loadVar makeT ⟨b, 0, none⟩).run Tryz.prog w = .ok (.agg #[x, y, z]) w := by
  have c0 := h.cell 0
  have c1 := h.cell 1
  have c2 := h.cell 2
  simp only [List.getElem?_toArray, List.getElem?_cons_succ, List.getElem?_cons_zero] at c0 c1 c2
  go_simp
@[go_sem] theorem mk_build0 (w : World) : (Instr.build makeT #[]).run Tryz.prog w = .ok (.agg #[.slice none 0 0, .slice none 0 0, .slice none 0 0]) w := run_build w makeT _ _ (by kernel_rfl)
theorem Fresh.fin {α : Type} {T : Flat α} (hp : 0 < T.size) {t : TypeId} {w wr u : World} {A : Option Addr} {c : Nat} {F : Nat → Prop} {xs : List α} (h : Fresh T t w wr A c xs) (hx : Only F wr u) (hg : ∀ b, F b → b < w.heap.size) : SlR T u A xs.length xs :=
  SlR.of_own hp (own_keep h.own hx fun b hb e => by have := hg b e; have := h.new b hb; omega)
theorem MAt.fin {Q : List SRow} {w wr u : World} {g : Nat} {F : Nat → Prop} {v : MkV} {rs : List (RulA × Rul)} {m : Mk} (h : MAt Q w wr g v rs m) (hx : Only F wr u) (hg : ∀ b, F b → b < w.heap.size) : MakeR u v rs m := by
  refine ⟨h.fv.fin (by decide) hx hg, ?_, (h.ss.f ⟨v.pA, v.pc, m.phony⟩ (by simp)).fin (by decide) hx hg, fun x hm => ?_, h.rm⟩
  · have := h.fr.fin (by decide) hx hg
    rw [h.rl] at this
    exact this
  · have q : ∀ y ∈ rowsOf x, y ∈ Q ++ (⟨v.pA, v.pc, m.phony⟩ : SRow) :: rs.flatMap rowsOf := fun y hy => List.mem_append_right _ (List.mem_cons_of_mem _ (List.mem_flatMap.2 ⟨x, hm, hy⟩))
    exact ⟨(h.ss.f _ (q ⟨x.1.tA, x.1.tc, x.2.targets⟩ (by simp))).fin (by decide) hx hg, (h.ss.f _ (q ⟨x.1.nA, x.1.nc, x.2.needs⟩ (by simp))).fin (by decide) hx hg, (h.ss.f _ (q ⟨x.1.cA, x.1.cc, x.2.cmds⟩ (by simp))).fin (by decide) hx hg⟩
theorem MAt.mk0 {w wr : World} {g : Nat} {q : SRow} (hx : Ext w wr) (hg : w.heap.size ≤ g) (hc : Cs wr g makeT #[.slice none 0 0, .slice none 0 0, .slice none 0 0]) (hq : q.F w wr) : MAt [q] w wr g mkV0 [] mk0 := by
  refine ⟨hc, Fresh.nil _ _ _ _ hx, Fresh.nil _ _ _ _ hx, ⟨fun x hm => ?_, ?_⟩, rfl, hg⟩
  · rcases List.mem_cons.1 hm with rfl | hm
    · exact hq
    · obtain rfl := List.mem_singleton.1 hm
      exact Fresh.nil _ _ _ _ hx
  · refine List.pairwise_cons.2 ⟨fun y hy => ?_, List.pairwise_singleton _ _⟩
    obtain rfl := List.mem_singleton.1 hy
    intro g _ h2
    simp [SRow.own, Value.ownBlock] at h2
theorem parseF_fit (s : Str) : (parseF s).1.Fit 700 := by
  have h0 : mk0.Fit 700 := ⟨mk0_fit.v, mk0_fit.vt, mk0_fit.r, mk0_fit.rt, Nat.zero_le _⟩
  unfold parseF
  split
  · exact h0
  · rename_i hl
    split
    · exact h0
    · split
      · have := foldF_fit (splB 10 s) mk0 0 mk0_fit (fun l hx => by have := splB_mem 10 s l hx; omega)
        have h1 := splB_le 10 s
        exact ⟨this.v, this.vt, this.r, this.rt, by have := this.p; show (foldF (splB 10 s) mk0).1.phony.length ≤ 700; omega⟩
      · exact h0
theorem foldF_cons (l : Str) (ls : List Str) (m : Mk) : foldF (l :: ls) m = if (lineF m l).2 = 0 then foldF ls (lineF m l).1 else (mk0, (lineF m l).2) := rfl
def PrsRes (w : World) (R : Mk × Int) (e : Ending) (w' : World) : Prop := ∃ v rs, e = .returned (.tuple #[mkV v R.1, errV R.2]) ∧ (∀ (F : Nat → Prop) (u : World), (∀ b, F b → b < w.heap.size) → Only F w' u → MakeR u v rs R.1) ∧ Ext w w'
set_option maxRecDepth 100000 in
set_option maxHeartbeats 4000000 in
theorem MkParse_any {w : World} (hm : Ml w) (s : Str) (hs : s.length ≤ 9223372036854775807) : Calls Tryz.prog 18 #[S s] w (PrsRes w (parseF s)) := by
  obtain ⟨g2, hg2⟩ : ∃ g, g = w.heap.size := ⟨_, rfl⟩
  obtain ⟨w1, hw1⟩ : ∃ w1, w1 = w.alloc (.cells #[.slice none 0 0, .slice none 0 0, .slice none 0 0] makeT) := ⟨_, rfl⟩
  have x1 : Ext w w1 := by rw [hw1]; exact (Only.refl No w).alloc _
  have C1 : Hid (Cs w1 g2 makeT #[.slice none 0 0, .slice none 0 0, .slice none 0 0]) := by rw [hw1, hg2]; exact Cs.new _ _ _
  have hz1 : g2 < w1.heap.size := by rw [hw1, hg2]; simp
  have hz0 : w.heap.size ≤ g2 := by omega
  have X1 := Lib.hid x1
  have HM := Lib.hid (hm.ext x1)
  have HX : Hid (∀ u v, Ext w1 u → Only (fun b => b = g2) u v → Ext w v) := fun u v h1 h2 => (x1.then_ext h1).trans h2 fun b hb e => by have e : b = g2 := e; omega
  have HP : Hid (parseF s = if 600 < s.length then (mk0, 2) else if (foldF (splB 10 s) mk0).2 ≠ 0 then (mk0, (foldF (splB 10 s) mk0).2) else if chkF (foldF (splB 10 s) mk0).1 = 0 then ((foldF (splB 10 s) mk0).1, 0) else (mk0, chkF (foldF (splB 10 s) mk0).1)) := rfl
  clear x1 hm
  by_cases hl : 600 < s.length
  · have g6 : decide ((600 : Int) < (s.length : Int)) = true := by rw [decide_eq_true_iff]; omega
    have HR := Lib.hid (HP.out.trans (if_pos hl))
    have e0 : w1.cell? ⟨g2, 0, none⟩ = some (.slice none 0 0) := C1.out.cell 0
    have e1 : w1.cell? ⟨g2, 1, none⟩ = some (.slice none 0 0) := C1.out.cell 1
    have e2 : w1.cell? ⟨g2, 2, none⟩ = some (.slice none 0 0) := C1.out.cell 2
    have z0 := C1.out.frozen 0
    have z1 := C1.out.frozen 1
    have z2 := C1.out.frozen 2
    have HO : Hid (∀ a b c, Only (fun b => b = g2) w1 (((w1.setCell ⟨g2, 0, none⟩ a).setCell ⟨g2, 1, none⟩ b).setCell ⟨g2, 2, none⟩ c)) := fun a b c => (((Only.refl _ _).at_ 0 a).at_ 1 b).at_ 2 c
    have HS : Hid (∀ a b c, Cs (((w1.setCell ⟨g2, 0, none⟩ a).setCell ⟨g2, 1, none⟩ b).setCell ⟨g2, 2, none⟩ c) g2 makeT #[a, b, c]) := fun a b c => ((C1.out.set_ 0 a).set_ 1 b).set_ 2 c
    go_enter Tryz.func18, Tryz.ntmps18
    go_upto_region 1 with fail
    rw [← hw1, ← hg2]
    clear hw1 hg2
    go_wp2_with fail
    refine bodyPost_cell rfl rfl rfl (load_mk (HS.out _ _ _)) ?_
    rw [HR.out]
    exact ⟨mkV0, [], rfl, fun _ _ _ _ => makeR0 _, HX.out _ _ (Only.refl _ _) (HO.out _ _ _)⟩
  · have g6 : decide ((600 : Int) < (s.length : Int)) = false := by rw [decide_eq_false_iff_not]; omega
    have HP2 := Lib.hid (HP.out.trans (if_neg hl))
    clear HP
    obtain ⟨g4, hg4⟩ : ∃ g, g = w1.heap.size := ⟨_, rfl⟩
    obtain ⟨w2, hw2⟩ : ∃ u, u = w1.alloc (.cells #[.slice none 0 0, .slice none 0 0, .slice none 0 0] makeT) := ⟨_, rfl⟩
    have x2 : Ext w1 w2 := by rw [hw2]; exact (Only.refl No w1).alloc _
    have C2 : Hid (Cs w2 g4 makeT #[.slice none 0 0, .slice none 0 0, .slice none 0 0]) := by
      rw [hw2, hg4]
      exact Cs.new _ _ _
    have hz4 : w1.heap.size ≤ g4 := Nat.le_of_eq hg4.symm
    have HSp := Lib.hid (Split_c s (by omega) 10 (HM.out.ext x2))
    have X2 := Lib.hid x2
    have hll : ∀ l ∈ splB 10 s, l.length ≤ 600 := fun l hx => by have := splB_mem 10 s l hx; omega
    have hsl := splB_le 10 s
    have HLl := Lib.hid hll
    clear x2 hll
    obtain ⟨ls, hls⟩ : ∃ l, l = splB 10 s := ⟨_, rfl⟩
    rw [← hls] at HSp HLl HP2 hsl
    clear hls
    go_enter Tryz.func18, Tryz.ntmps18
    go_upto_region 1 with fail
    rw [← hw1, ← hg2]
    clear hw1 hg2
    go_upto_region 4 with fail
    rw [← hw2, ← hg4]
    clear hw2 hg4
    go_wp2_with fail
    refine HSp.out.mono ?_
    rintro e w3 ⟨A3, c3, rfl, hF3⟩
    have P3 : Hid (MAt [⟨A3, c3, ls⟩] w1 w3 g4 mkV0 [] mk0) := MAt.mk0 (X2.out.then_ext hF3.ext) hz4 (C2.out.keep hF3.ext id) (Fresh.from hF3 X2.out)
    clear hF3 C2 HSp X2
    go_wp2_with fail
    go_loopw [18] (fun i wr => ∃ j : Nat, j ≤ ls.length ∧ i = .int .i64 j ∧ ∃ v rs m, MAt [⟨A3, c3, ls⟩] w1 wr g4 v rs m ∧ m.Fit j ∧ foldF ls mk0 = foldF (ls.drop j) m) (fun i _ => ls.length - (intOf i).toNat)
    case atStart => exact ⟨0, Nat.zero_le _, rfl, mkV0, [], mk0, P3.out, mk0_fit, rfl⟩
    case round =>
      clear P3
      obtain ⟨j, hj, rfl, v, rs, m, hP, hF, hO⟩ := hrel
      have P := Lib.hid hP
      have HFt := Lib.hid hF
      have HO0 := Lib.hid hO
      clear hP hF hO
      by_cases hlt : j < ls.length
      · have HRw := Lib.hid ((P.out.ss.f ⟨A3, c3, ls⟩ (by simp)).row (by decide))
        obtain ⟨b, o, l, rfl, hx, cx⟩ := strs_get HRw.out hlt
        have HX0 := Lib.hid hx
        have cx' : wr.cell? ⟨b, o + j, none⟩ = some (S l) := cx (X.here _ _)
        have hl6 : l.length ≤ 600 := HLl.out l (List.mem_of_getElem? HX0.out)
        have HLn := Lib.hid (Line_c HM.out P.out HFt.out (by omega) l hl6)
        have HFit := Lib.hid (lineF_fit HFt.out hl6)
        have HO2 : Hid (foldF ls mk0 = if (lineF m l).2 = 0 then foldF (ls.drop (j + 1)) (lineF m l).1 else (mk0, (lineF m l).2)) := by
          rw [Hid, HO0.out, drop_get HX0.out, foldF_cons]
        clear hx cx HO0 P HFt
        generalize lineF m l = R at HLn HFit HO2
        obtain ⟨m', er⟩ := R
        dsimp only at HO2 HFit
        go_wp2_with fail
        refine HLn.out.mono ?_
        rintro e u ⟨v', rs', rfl, hM⟩
        have P2 := Lib.hid hM
        clear hM HLn cx'
        by_cases he : er = 0
        · subst he
          rw [errV_zero]
          have HO3 : Hid (foldF ls mk0 = foldF (ls.drop (j + 1)) m') := HO2.out.trans (if_pos rfl)
          go_wp2_with fail
          go_roundw
          case rel => exact ⟨j + 1, by omega, by go_num, v', rs', m', P2.out, HFit.out, HO3.out⟩
          case measure => simp [intOf]; omega
        · have hpos := errV_pos he
          have HO3 : Hid (foldF ls mk0 = (mk0, er)) := HO2.out.trans (if_neg he)
          have HR : Hid (parseF s = (mk0, er)) := by
            rw [Hid, HP2.out, HO3.out]
            exact if_pos he
          have C2 := Lib.hid (C1.out.keep P2.out.x id)
          have HO : Hid (∀ a b c, Only (fun b => b = g2) u (((u.setCell ⟨g2, 0, none⟩ a).setCell ⟨g2, 1, none⟩ b).setCell ⟨g2, 2, none⟩ c)) := fun a b c => (((Only.refl _ _).at_ 0 a).at_ 1 b).at_ 2 c
          have HS : Hid (∀ a b c, Cs (((u.setCell ⟨g2, 0, none⟩ a).setCell ⟨g2, 1, none⟩ b).setCell ⟨g2, 2, none⟩ c) g2 makeT #[a, b, c]) := fun a b c => ((C2.out.set_ 0 a).set_ 1 b).set_ 2 c
          have e0 : u.cell? ⟨g2, 0, none⟩ = some (.slice none 0 0) := C2.out.cell 0
          have e1 : u.cell? ⟨g2, 1, none⟩ = some (.slice none 0 0) := C2.out.cell 1
          have e2 : u.cell? ⟨g2, 2, none⟩ = some (.slice none 0 0) := C2.out.cell 2
          have z0 := C2.out.frozen 0
          have z1 := C2.out.frozen 1
          have z2 := C2.out.frozen 2
          rw [hpos]
          go_wp2_with fail
          refine bodyPost_cell rfl rfl rfl (load_mk (HS.out _ _ _)) ?_
          rw [HR.out]
          exact ⟨mkV0, [], by rw [hpos]; rfl, fun _ _ _ _ => makeR0 _, HX.out _ _ P2.out.x (HO.out _ _ _)⟩
      · obtain rfl : j = ls.length := by omega
        have HO2 : Hid (foldF ls mk0 = (m, 0)) := by
          rw [Hid, HO0.out, List.drop_of_length_le (Nat.le_refl _)]
          rfl
        have HP3 : Hid (parseF s = if chkF m = 0 then (m, 0) else (mk0, chkF m)) := by
          rw [Hid, HP2.out, HO2.out]
          exact if_neg (fun h => h rfl)
        clear HO0 HO2 HP2
        have c0 : wr.cell? ⟨g4, 0, none⟩ = some (.slice v.vA m.vars.length v.vc) := P.out.rc.cell 0
        have c1 : wr.cell? ⟨g4, 1, none⟩ = some (.slice v.rA m.rules.length v.rc) := by rw [← P.out.rl]; exact P.out.rc.cell 1
        have c2 : wr.cell? ⟨g4, 2, none⟩ = some (.slice v.pA m.phony.length v.pc) := P.out.rc.cell 2
        have HCk := Lib.hid (Check_c P.out.made HFt.out.r (fun x hx => ⟨(HFt.out.rt x hx).1, (HFt.out.rt x hx).2.1⟩) (by have := HFt.out.p; omega))
        generalize chkF m = ck at HCk HP3
        go_wp2_with fail
        refine HCk.out.mono ?_
        rintro e u ⟨rfl, hu⟩
        have P2 := Lib.hid (P.out.ext hu)
        have C2 := Lib.hid (C1.out.keep P2.out.x id)
        clear hu HCk P c0 c1 c2
        have HO : Hid (∀ a b c, Only (fun b => b = g2) u (((u.setCell ⟨g2, 0, none⟩ a).setCell ⟨g2, 1, none⟩ b).setCell ⟨g2, 2, none⟩ c)) := fun a b c => (((Only.refl _ _).at_ 0 a).at_ 1 b).at_ 2 c
        have HS : Hid (∀ a b c, Cs (((u.setCell ⟨g2, 0, none⟩ a).setCell ⟨g2, 1, none⟩ b).setCell ⟨g2, 2, none⟩ c) g2 makeT #[a, b, c]) := fun a b c => ((C2.out.set_ 0 a).set_ 1 b).set_ 2 c
        have e0 : u.cell? ⟨g2, 0, none⟩ = some (.slice none 0 0) := C2.out.cell 0
        have e1 : u.cell? ⟨g2, 1, none⟩ = some (.slice none 0 0) := C2.out.cell 1
        have e2 : u.cell? ⟨g2, 2, none⟩ = some (.slice none 0 0) := C2.out.cell 2
        have z0 := C2.out.frozen 0
        have z1 := C2.out.frozen 1
        have z2 := C2.out.frozen 2
        by_cases he : ck = 0
        · subst he
          rw [errV_zero]
          have HR : Hid (parseF s = (m, 0)) := HP3.out.trans (if_pos rfl)
          have c0 : u.cell? ⟨g4, 0, none⟩ = some (.slice v.vA m.vars.length v.vc) := P2.out.rc.cell 0
          have c1 : u.cell? ⟨g4, 1, none⟩ = some (.slice v.rA m.rules.length v.rc) := by rw [← P2.out.rl]; exact P2.out.rc.cell 1
          have c2 : u.cell? ⟨g4, 2, none⟩ = some (.slice v.pA m.phony.length v.pc) := P2.out.rc.cell 2
          go_wp2_with fail
          refine bodyPost_cell rfl rfl rfl (load_mk (HS.out _ _ _)) ?_
          rw [HR.out]
          exact ⟨v, rs, rfl, fun F u' hF hu' => P2.out.fin (F := fun b => b = g2 ∨ F b) (((HO.out _ _ _).weak fun b _ h => .inl h).trans hu' fun b _ h => .inr h) (fun b hb => by
              have := X1.out.size
              rcases hb with hb | hb
              · omega
              · have := hF b hb
                omega), HX.out _ _ P2.out.x (HO.out _ _ _)⟩
        · have hpos := errV_pos he
          have HR : Hid (parseF s = (mk0, ck)) := HP3.out.trans (if_neg he)
          rw [hpos]
          go_wp2_with fail
          refine bodyPost_cell rfl rfl rfl (load_mk (HS.out _ _ _)) ?_
          rw [HR.out]
          exact ⟨mkV0, [], by rw [hpos]; rfl, fun _ _ _ _ => makeR0 _, HX.out _ _ P2.out.x (HO.out _ _ _)⟩
theorem MkParse_c {w : World} (hm : Ml w) (s : Str) (hs : s.length ≤ 1000000) : Calls Tryz.prog 18 #[S s] w (PrsRes w (parseF s)) := MkParse_any hm s (by omega)
abbrev grpT : TypeId := 46
def grpF : Flat (RulA × Grp) := ⟨4, fun x => [.slice x.1.tA x.2.targets.length x.1.tc, .slice x.1.nA x.2.needs.length x.1.nc, .slice x.1.cA x.2.cmds.length x.1.cc, .bool x.2.phony], fun _ => rfl⟩
theorem grps_get {w : World} {A : Option Addr} {n : Nat} {rs : List (RulA × Grp)} (h : SlR grpF w A n rs) {k : Nat} (hk : k < n) :
    ∃ b o x, A = some ⟨b, o, none⟩ ∧ rs[k]? = some x ∧ (∀ ξ : X w No, ξ.v.cell? ⟨b, o + k * 4, none⟩ = some (.slice x.1.tA x.2.targets.length x.1.tc)) ∧ (∀ ξ : X w No, ξ.v.cell? ⟨b, o + k * 4 + 1, none⟩ = some (.slice x.1.nA x.2.needs.length x.1.nc)) ∧
      (∀ ξ : X w No, ξ.v.cell? ⟨b, o + k * 4 + 2, none⟩ = some (.slice x.1.cA x.2.cmds.length x.1.cc)) ∧ (∀ ξ : X w No, ξ.v.cell? ⟨b, o + k * 4 + 3, none⟩ = some (.bool x.2.phony)) := by
  obtain ⟨b, o, x, e, hb, hx, hc⟩ := h.get hk
  exact ⟨b, o, x, e, hx, fun ξ => (ξ.h.cell hb id).trans (hc 0 _ rfl), fun ξ => (ξ.h.cell hb id).trans (hc 1 _ rfl), fun ξ => (ξ.h.cell hb id).trans (hc 2 _ rfl), fun ξ => (ξ.h.cell hb id).trans (hc 3 _ rfl)⟩
abbrev ruleV (x : RulA × Rul) : Value := .agg #[.slice x.1.tA x.2.targets.length x.1.tc, .slice x.1.nA x.2.needs.length x.1.nc, .slice x.1.cA x.2.cmds.length x.1.cc]
abbrev grpW (x : RulA × Grp) : Value := .agg #[.slice x.1.tA x.2.targets.length x.1.tc, .slice x.1.nA x.2.needs.length x.1.nc, .slice x.1.cA x.2.cmds.length x.1.cc, .bool x.2.phony]
def idxI (o : Option Nat) : Int := match o with | some i => (i : Int) | none => -1
theorem findIdx_none_snoc {α : Type} {p : α → Bool} {xs : List α} {k : Nat} {x : α} (h : ∀ y ∈ xs.take k, p y = false) (hx : xs[k]? = some x) (hp : p x = false) : ∀ y ∈ xs.take (k + 1), p y = false := fun y hy => by
  rw [List.take_add_one, hx] at hy
  rcases List.mem_append.1 hy with hy | hy
  · exact h y hy
  · simp at hy; exact hy ▸ hp
theorem findIdx_at {α : Type} {p : α → Bool} {xs : List α} {k : Nat} {x : α} (h : ∀ y ∈ xs.take k, p y = false) (hx : xs[k]? = some x) (hp : p x = true) : idxI (xs.findIdx? p) = (k : Int) := by
  obtain ⟨hk, e⟩ := List.getElem?_eq_some_iff.1 hx
  have : xs.findIdx? p = some k := List.findIdx?_eq_some_iff_getElem.2 ⟨hk, by rw [e]; exact hp, fun j hj => by
    have := h (xs[j]'(by omega)) (by
      rw [List.mem_take_iff_getElem]
      exact ⟨j, by omega, rfl⟩)
    simp [this]⟩
  rw [this]; rfl
theorem findIdx_no {α : Type} {p : α → Bool} {xs : List α} (h : ∀ y ∈ xs, p y = false) : idxI (xs.findIdx? p) = -1 := by
  have : xs.findIdx? p = none := List.findIdx?_eq_none_iff.2 fun x hx => by rw [h x hx]
  rw [this]; rfl
set_option maxRecDepth 100000 in
theorem IdxRul_c {w : World} {A : Option Addr} {n c : Nat} {xs : List (RulA × Rul)} (h : SlR rulF w A n xs) (hn : n ≤ 100000) (p : (RulA × Rul) → Bool) (cap : Array Value)
    (hp : ∀ x ∈ xs, ∀ u, Ext w u → Calls Tryz.prog 116 (#[ruleV x] ++ cap) u fun e w' => e = .returned (.bool (p x)) ∧ Ext u w') :
    Calls Tryz.prog 115 #[.slice A n c, .func (.func 116) #[] cap] w fun e w' => e = .returned (.int .i64 (idxI (xs.findIdx? p))) ∧ Ext w w' := by
  have HS := Lib.hid h
  have HPr := Lib.hid hp
  clear h hp
  go_enter Tryz.func115, Tryz.ntmps115
  go_wp2
  go_loopw [8] (fun i wr => ∃ k : Nat, k ≤ n ∧ i = .int .i64 k ∧ (∀ y ∈ xs.take k, p y = false) ∧ ∃ ξ : X w No, wr = ξ.v) (fun i _ => n - (intOf i).toNat)
  case atStart => exact ⟨0, Nat.zero_le _, rfl, by simp, X.here _ _, rfl⟩
  case round =>
    obtain ⟨k, hk, rfl, hT, ξ, rfl⟩ := hrel
    have HT := Lib.hid hT
    clear hT
    by_cases hlt : k < n
    · obtain ⟨b, o, x, rfl, hx, hb, d0, d1, d2⟩ := rules_get HS.out hlt
      have HX := Lib.hid hx
      have HC := Lib.hid (HPr.out x (List.mem_of_getElem? hx) _ ξ.h)
      have c0 := d0 _ ξ.h
      have c1 := d1 _ ξ.h
      have c2 := d2 _ ξ.h
      obtain ⟨q, hq⟩ : ∃ q, p x = q := ⟨_, rfl⟩
      have HP := Lib.hid hq
      rw [hq] at HC
      clear hx hq
      go_wp2_with fail
      refine HC.out.mono ?_
      rintro e u ⟨rfl, hu⟩
      have HU : Hid (Ext w u) := Lib.hid (ξ.h.then_ext hu)
      clear hu HC
      cases q with
      | true =>
        go_wp2_with fail
        go_ret
        exact ⟨by rw [findIdx_at HT.out HX.out HP.out]; rfl, HU.out⟩
      | false =>
        go_wp2_with fail
        go_roundw
        case rel => exact ⟨k + 1, by omega, by go_num, findIdx_none_snoc HT.out HX.out HP.out, ⟨_, HU.out⟩, rfl⟩
        case measure => simp [intOf]; omega
    · obtain rfl : k = n := by omega
      go_wp2_with fail
      go_ret
      have e1 := HT.out
      rw [List.take_of_length_le (by rw [HS.out.1]; exact Nat.le_refl _)] at e1
      exact ⟨by rw [findIdx_no e1]; rfl, ξ.h⟩
set_option maxRecDepth 100000 in
theorem IdxGrp_c {w : World} {A : Option Addr} {n c : Nat} {xs : List (RulA × Grp)} (h : SlR grpF w A n xs) (hn : n ≤ 100000) (p : (RulA × Grp) → Bool) (cap : Array Value)
    (hp : ∀ x ∈ xs, ∀ u, Ext w u → Calls Tryz.prog 41 (#[grpW x] ++ cap) u fun e w' => e = .returned (.bool (p x)) ∧ Ext u w') :
    Calls Tryz.prog 40 #[.slice A n c, .func (.func 41) #[] cap] w fun e w' => e = .returned (.int .i64 (idxI (xs.findIdx? p))) ∧ Ext w w' := by
  have HS := Lib.hid h
  have HPr := Lib.hid hp
  clear h hp
  go_enter Tryz.func40, Tryz.ntmps40
  go_wp2
  go_loopw [8] (fun i wr => ∃ k : Nat, k ≤ n ∧ i = .int .i64 k ∧ (∀ y ∈ xs.take k, p y = false) ∧ ∃ ξ : X w No, wr = ξ.v) (fun i _ => n - (intOf i).toNat)
  case atStart => exact ⟨0, Nat.zero_le _, rfl, by simp, X.here _ _, rfl⟩
  case round =>
    obtain ⟨k, hk, rfl, hT, ξ, rfl⟩ := hrel
    have HT := Lib.hid hT
    clear hT
    by_cases hlt : k < n
    · obtain ⟨b, o, x, rfl, hx, c0, c1, c2, c3⟩ := grps_get HS.out hlt
      have HX := Lib.hid hx
      have HC := Lib.hid (HPr.out x (List.mem_of_getElem? hx) _ ξ.h)
      obtain ⟨q, hq⟩ : ∃ q, p x = q := ⟨_, rfl⟩
      have HP := Lib.hid hq
      rw [hq] at HC
      clear hx hq
      go_wp2_with fail
      refine HC.out.mono ?_
      rintro e u ⟨rfl, hu⟩
      have HU : Hid (Ext w u) := Lib.hid (ξ.h.then_ext hu)
      clear hu HC
      cases q with
      | true =>
        go_wp2_with fail
        go_ret
        exact ⟨by rw [findIdx_at HT.out HX.out HP.out]; rfl, HU.out⟩
      | false =>
        go_wp2_with fail
        go_roundw
        case rel => exact ⟨k + 1, by omega, by go_num, findIdx_none_snoc HT.out HX.out HP.out, ⟨_, HU.out⟩, rfl⟩
        case measure => simp [intOf]; omega
    · obtain rfl : k = n := by omega
      go_wp2_with fail
      go_ret
      have e1 := HT.out
      rw [List.take_of_length_le (by rw [HS.out.1]; exact Nat.le_refl _)] at e1
      exact ⟨by rw [findIdx_no e1]; rfl, ξ.h⟩
end Go.Proofs.YtnhaekifcieeoaaGreatDoor
