/- Put together: Rcd, Ba, Unp, Fnd, Cut, Exp, Fld. -/
import Derived.Test.YtnhaekifcieeoaaGreatDoorPk02
import Derived.Test.YtnhaekifcieeoaaGreatDoorPk06
import Derived.Test.YtnhaekifcieeoaaGreatDoorPk07
import Derived.Test.YtnhaekifcieeoaaGreatDoorPk04
import Derived.Lib.ItoaLen
import Derived.RangeFuncNested
import Derived.RangeFuncBound
import Derived.RangeFuncCalls
import Derived.RangeFuncLeaves
import Derived.RangeFuncBox
import Derived.Shelf.Abstract
import Derived.WalkKit
import Derived.OwnWalkIn
import Derived.TacticsInMore
import Derived.LoopNIn
import Derived.LoopIn
import Derived.Test.YtnhaekifcieeoaaGreatDoorProg
import Derived.Test.YtnhaekifcieeoaaGreatDoorPkS
import Derived.Test.YtnhaekifcieeoaaGreatDoorPk01
import Derived.Lib.FieldsP
import Derived.Lib.DecodeN
import Derived.Lib.Replace
import Derived.Shelf.GgClosure.Gives
namespace Go.Proofs.YtnhaekifcieeoaaGreatDoor
open Go Go.RowKit
def cmdT (c : Str) : Str := [32] ++ Lib.itoa c.length ++ [58] ++ c
def filT (f : File) : Str := [32] ++ f.1 ++ [32] ++ Lib.itoa f.2.length ++ [58] ++ f.2
def hdrT (r : Rcd) : Str := Lib.itoa r.cmds.length ++ [32] ++ Lib.itoa r.needs.length ++ [32] ++ Lib.itoa r.out.length
def recT (r : Rcd) : Str := hdrT r ++ r.cmds.flatMap cmdT ++ (r.needs ++ r.out).flatMap filT
theorem itoa_len (n : Nat) (h : n ≤ 1000000) : (Lib.itoa (n : Int)).length ≤ 21 := Lib.itoa_length_le _ (by omega) (by omega)
set_option maxRecDepth 100000 in
set_option maxHeartbeats 4000000 in
theorem RText_c {w : World} (hE : EnvT w) {v : RcdV} {r : Rcd} (h : RcdR w v r) (hl : r.Lim) :
    Calls Tryz.prog 75 #[rcdV v r] w fun e w' => e = .returned (S (recT r)) ∧ Ext w w' := by
  obtain ⟨cA, cc, nA, nc, oA, oc⟩ := v
  obtain ⟨w0, hw0⟩ : ∃ w0, w0 = w.alloc (.cells (rcdCs ⟨cA, cc, nA, nc, oA, oc⟩ r) rcT) := ⟨_, rfl⟩
  have hx0 : Ext w w0 := by rw [hw0]; exact (Only.refl No w).alloc _
  have hB : Cs w0 w.heap.size rcT (rcdCs ⟨cA, cc, nA, nc, oA, oc⟩ r) := by rw [hw0]; exact Cs.new _ _ _
  have d0 : ∀ ξ : X w0 No, ξ.v.cell? ⟨w.heap.size, 0, none⟩ = some (.slice cA r.cmds.length cc) := hB.x id 0
  have d1 : ∀ ξ : X w0 No, ξ.v.cell? ⟨w.heap.size, 1, none⟩ = some (.slice nA r.needs.length nc) := hB.x id 1
  have d2 : ∀ ξ : X w0 No, ξ.v.cell? ⟨w.heap.size, 2, none⟩ = some (.slice oA r.out.length oc) := hB.x id 2
  have HX0 := Lib.hid hx0
  have HR := Lib.hid (h.ext hx0)
  have hlc := hl.c
  have hln := hl.n
  have hlo := hl.o
  have HLc := Lib.hid hl.lc
  have HLn := Lib.hid hl.ln
  have HLo := Lib.hid hl.lo
  have HI : Hid (∀ (n : Nat) v, n ≤ 1000000 → Ext w0 v → Calls Tryz.prog 108 #[.int .i64 (n : Int)] v fun e w' => e = .returned (S (Lib.itoa (n : Int))) ∧ Ext v w') := fun n v hn hv => Itoa_t (n : Int) (by omega) (by omega) (hE.ext (hx0.then_ext hv))
  have hi1 := itoa_len r.cmds.length (by omega)
  have hi2 := itoa_len r.needs.length (by omega)
  have hi3 := itoa_len r.out.length (by omega)
  have HI1 := Lib.hid (fun v hv => HI.out r.cmds.length v (by omega) hv)
  have HI2 := Lib.hid (fun v hv => HI.out r.needs.length v (by omega) hv)
  have HI3 := Lib.hid (fun v hv => HI.out r.out.length v (by omega) hv)
  have HH : Hid (hdrT r = Lib.itoa r.cmds.length ++ [32] ++ Lib.itoa r.needs.length ++ [32] ++ Lib.itoa r.out.length) := rfl
  have hhl : (hdrT r).length ≤ 65 := by rw [HH.out]; simp only [List.length_append, List.length_cons, List.length_nil]; omega
  have HT : Hid (recT r = hdrT r ++ r.cmds.flatMap cmdT ++ (r.needs ++ r.out).flatMap filT) := rfl
  generalize hdrT r = hd at HH hhl HT
  generalize Lib.itoa (r.cmds.length : Int) = i1 at HI1 HH hi1
  generalize Lib.itoa (r.needs.length : Int) = i2 at HI2 HH hi2
  generalize Lib.itoa (r.out.length : Int) = i3 at HI3 HH hi3
  generalize recT r = R at HT ⊢
  clear hB hx0 h hl hE
  unfold rcdCs at hw0
  show Calls _ _ #[.agg #[.slice cA r.cmds.length cc, .slice nA r.needs.length nc, .slice oA r.out.length oc]] _ _
  go_enter Tryz.func75, Tryz.ntmps75
  go_upto_region 1 with fail
  rw [← hw0]
  clear hw0
  obtain ⟨ξ0, hξ0⟩ : ∃ ξ : X w0 No, ξ.v = w0 := ⟨X.here _ _, rfl⟩
  rw [← hξ0]
  clear hξ0
  go_upto_region 2 with fail
  refine Mix.wp_draw [4, 10, 17] 100 (Cl w0 No) (by kernel_rfl) (by kernel_rfl) (Cl.of ξ0.h.drew) ?_
  obtain ⟨μ0, hμ0⟩ : ∃ μ0 : X w0 No, μ0.v = ξ0.v.drew := ⟨⟨_, ξ0.h.drew⟩, rfl⟩
  rw [← hμ0]
  clear hμ0
  (repeat' (refine Mix.lex_quiet0 rfl rfl rfl ?_; intro K hK; go_big_quiet_op; go_big_quiet_on))
  ((first | refine Mix.lex_goes0 rfl rfl ?_ | refine Mix.lex_goesG rfl rfl rfl (by with_reducible rfl) rfl ?_); intro K hK; go_simp); refine (HI1.out _ μ0.h).mono ?_; rintro e uu ⟨rfl, hu⟩; obtain ⟨μ1, hnew⟩ : ∃ ξ : X w0 No, ξ.v = uu := ⟨⟨uu, μ0.h.then_ext hu⟩, rfl⟩; subst hnew; have Hμ1 := Lib.hid hu; refine ⟨_, rfl, hK _ _ (fun _ => ⟨μ1, rfl⟩) ?_⟩; clear hK K hu; simp only [Act.put, List.setIfInBounds_toArray, List.set_cons_succ, List.set_cons_zero]; (repeat' (first | (refine Mix.lex_quiet0 rfl rfl rfl ?_; intro K hK; go_big_quiet_op; go_big_quiet_on) | (refine Mix.lex_quietG rfl rfl rfl (by with_reducible rfl) rfl rfl ?_; intro K hK; go_big_quiet_op; go_big_quiet_on) | ((first | refine Mix.lex_skipT rfl rfl rfl (by with_reducible rfl) ?_ | refine Mix.lex_skipF rfl rfl rfl (by with_reducible rfl) ?_ | refine Mix.lex_skipU rfl rfl rfl (by with_reducible rfl) ?_); simp only [Act.put, List.setIfInBounds_toArray, List.set_cons_succ, List.set_cons_zero]) | (refine Mix.lex_part rfl rfl rfl rfl (fun hq => ?_) (fun hq => ?_) <;> (fail_if_success (guard_hyp hq :ₛ true = true)) <;> (fail_if_success (guard_hyp hq :ₛ false = false)) <;> first | (exfalso; cases hq; done) | (exfalso; simp only [decide_eq_true_eq, decide_eq_false_iff_not, beq_iff_eq, beq_eq_false_iff_ne, ne_eq, Int.not_lt, Int.not_le] at hq; omega) | simp only [Act.put, List.setIfInBounds_toArray, List.set_cons_succ, List.set_cons_zero])))
  ((first | refine Mix.lex_goes0 rfl rfl ?_ | refine Mix.lex_goesG rfl rfl rfl (by with_reducible rfl) rfl ?_); intro K hK; go_simp); refine (HI2.out _ μ1.h).mono ?_; rintro e uu ⟨rfl, hu⟩; obtain ⟨μ2, hnew⟩ : ∃ ξ : X w0 No, ξ.v = uu := ⟨⟨uu, μ1.h.then_ext hu⟩, rfl⟩; subst hnew; have Hμ2 := Lib.hid hu; refine ⟨_, rfl, hK _ _ (fun _ => ⟨μ2, rfl⟩) ?_⟩; clear hK K hu; simp only [Act.put, List.setIfInBounds_toArray, List.set_cons_succ, List.set_cons_zero]; (repeat' (first | (refine Mix.lex_quiet0 rfl rfl rfl ?_; intro K hK; go_big_quiet_op; go_big_quiet_on) | (refine Mix.lex_quietG rfl rfl rfl (by with_reducible rfl) rfl rfl ?_; intro K hK; go_big_quiet_op; go_big_quiet_on) | ((first | refine Mix.lex_skipT rfl rfl rfl (by with_reducible rfl) ?_ | refine Mix.lex_skipF rfl rfl rfl (by with_reducible rfl) ?_ | refine Mix.lex_skipU rfl rfl rfl (by with_reducible rfl) ?_); simp only [Act.put, List.setIfInBounds_toArray, List.set_cons_succ, List.set_cons_zero]) | (refine Mix.lex_part rfl rfl rfl rfl (fun hq => ?_) (fun hq => ?_) <;> (fail_if_success (guard_hyp hq :ₛ true = true)) <;> (fail_if_success (guard_hyp hq :ₛ false = false)) <;> first | (exfalso; cases hq; done) | (exfalso; simp only [decide_eq_true_eq, decide_eq_false_iff_not, beq_iff_eq, beq_eq_false_iff_ne, ne_eq, Int.not_lt, Int.not_le] at hq; omega) | simp only [Act.put, List.setIfInBounds_toArray, List.set_cons_succ, List.set_cons_zero])))
  ((first | refine Mix.lex_goes0 rfl rfl ?_ | refine Mix.lex_goesG rfl rfl rfl (by with_reducible rfl) rfl ?_); intro K hK; go_simp); refine (HI3.out _ μ2.h).mono ?_; rintro e uu ⟨rfl, hu⟩; obtain ⟨μ3, hnew⟩ : ∃ ξ : X w0 No, ξ.v = uu := ⟨⟨uu, μ2.h.then_ext hu⟩, rfl⟩; subst hnew; have Hμ3 := Lib.hid hu; refine ⟨_, rfl, hK _ _ (fun _ => ⟨μ3, rfl⟩) ?_⟩; clear hK K hu; simp only [Act.put, List.setIfInBounds_toArray, List.set_cons_succ, List.set_cons_zero]; (repeat' (first | (refine Mix.lex_quiet0 rfl rfl rfl ?_; intro K hK; go_big_quiet_op; go_big_quiet_on) | (refine Mix.lex_quietG rfl rfl rfl (by with_reducible rfl) rfl rfl ?_; intro K hK; go_big_quiet_op; go_big_quiet_on) | ((first | refine Mix.lex_skipT rfl rfl rfl (by with_reducible rfl) ?_ | refine Mix.lex_skipF rfl rfl rfl (by with_reducible rfl) ?_ | refine Mix.lex_skipU rfl rfl rfl (by with_reducible rfl) ?_); simp only [Act.put, List.setIfInBounds_toArray, List.set_cons_succ, List.set_cons_zero]) | (refine Mix.lex_part rfl rfl rfl rfl (fun hq => ?_) (fun hq => ?_) <;> (fail_if_success (guard_hyp hq :ₛ true = true)) <;> (fail_if_success (guard_hyp hq :ₛ false = false)) <;> first | (exfalso; cases hq; done) | (exfalso; simp only [decide_eq_true_eq, decide_eq_false_iff_not, beq_iff_eq, beq_eq_false_iff_ne, ne_eq, Int.not_lt, Int.not_le] at hq; omega) | simp only [Act.put, List.setIfInBounds_toArray, List.set_cons_succ, List.set_cons_zero])))
  refine Mix.lex_nil ?_
  have hd2 : hd = i1 ++ 32 :: (i2 ++ 32 :: i3) := by rw [HH.out]; simp
  have HHd := Lib.hid hd2
  have HIx : Hid (∀ (n : Nat), n ≤ 1000000 → (Lib.itoa (n : Int)).length ≤ 21) := itoa_len
  clear HI1 HI2 HI3 HH hd2
  go_wp2_with fail
  go_loopw [4, 31] (fun s i wr => ∃ j : Nat, j ≤ r.cmds.length ∧ i = .int .i64 j ∧ ∃ acc : Str, s = S acc ∧ acc = hd ++ (r.cmds.take j).flatMap cmdT ∧ acc.length ≤ 65 + 10100 * j ∧ ∃ ξ : X w0 No, wr = ξ.v) (fun _ i _ => r.cmds.length - (intOf i).toNat)
  case atStart => exact ⟨0, Nat.zero_le _, rfl, hd, by rw [HHd.out], by simp, by omega, μ3, rfl⟩
  case round =>
    obtain ⟨j, hj, rfl, acc, rfl, hA, hal, ξ, rfl⟩ := hrel
    have HA := Lib.hid hA
    clear hA
    by_cases hlt : j < r.cmds.length
    · obtain ⟨b, o, x, rfl, hx, c0⟩ := strs_get HR.out.c hlt
      have hxl := HLc.out x (List.mem_of_getElem? hx)
      have hil := HIx.out x.length (by omega)
      have HIc := Lib.hid (fun v hv => HI.out x.length v (by omega) hv)
      have HS : Hid ((r.cmds.take (j + 1)).flatMap cmdT = (r.cmds.take j).flatMap cmdT ++ ([32] ++ Lib.itoa x.length ++ [58] ++ x)) := by
        rw [Hid, List.take_add_one, hx, List.flatMap_append]; simp [cmdT]
      generalize Lib.itoa (x.length : Int) = il at hil HIc HS
      clear hx
      go_wp2_with fail
      refine (HIc.out _ ξ.h).mono ?_; rintro e uu ⟨rfl, hu⟩; obtain ⟨ξ1, hnew⟩ : ∃ ξ : X w0 No, ξ.v = uu := ⟨⟨uu, ξ.h.then_ext hu⟩, rfl⟩; subst hnew; have Hξ1 := Lib.hid hu; clear hu
      go_wp2_with fail
      go_roundw
      case rel => exact ⟨j + 1, by omega, by go_num, _, rfl, by rw [HS.out, HA.out]; simp, by simp only [List.length_append, List.length_cons]; omega, ξ1, rfl⟩
      case measure => simp [intOf]; omega
    · have HA2 : Hid (acc = hd ++ r.cmds.flatMap cmdT) := by
        have := HA.out
        rw [List.take_of_length_le (by omega)] at this
        exact this
      clear HA
      obtain ⟨u, hu⟩ : ∃ u, u = ξ.v.alloc (.cells #[.slice nA r.needs.length nc, .slice oA r.out.length oc] 22) := ⟨_, rfl⟩
      have hxu : Ext ξ.v u := by rw [hu]; exact (Only.refl No _).alloc _
      have hcu : Cs u ξ.v.heap.size 22 #[.slice nA r.needs.length nc, .slice oA r.out.length oc] := by rw [hu]; exact Cs.new _ _ _
      have HC := Lib.hid (Concat_c (c := nc) (d := oc) hcu (HR.out.n.ext (ξ.h.then_ext hxu)) (HR.out.o.ext (ξ.h.then_ext hxu)) (by omega) (by omega))
      have XU : Hid (Ext w0 u) := ξ.h.then_ext hxu
      have HLf : Hid (∀ x ∈ r.needs ++ r.out, x.1.length ≤ 10000 ∧ x.2.length ≤ 10000) := fun x hx => by
        rcases List.mem_append.1 hx with hx | hx
        · exact HLn.out x hx
        · exact HLo.out x hx
      have hyl : (r.needs ++ r.out).length ≤ 200 := by rw [List.length_append]; omega
      generalize r.needs ++ r.out = ys at HC HT HLf hyl
      have HAl : Hid (acc.length ≤ 1020000) := by unfold Hid; omega
      clear hxu hcu hal HLn HLo HHd
      go_wp2_with fail
      rw [← hu]
      clear hu
      refine HC.out.mono ?_
      rintro e u2 ⟨A', c', rfl, hf⟩
      have XU2 : Hid (Ext w0 u2) := XU.out.then_ext hf.ext
      have F := Lib.hid (hf.row (by decide))
      obtain ⟨ζ, hζ⟩ : ∃ ζ : X u2 No, ζ.v = u2 := ⟨X.here _ _, rfl⟩
      rw [← hζ]
      clear hf HC XU hζ
      go_wp2_with fail
      go_loopw [4, 53] (fun s i wr => ∃ j : Nat, j ≤ ys.length ∧ i = .int .i64 j ∧ ∃ ac2 : Str, s = S ac2 ∧ ac2 = acc ++ (ys.take j).flatMap filT ∧ ac2.length ≤ 1020000 + 20100 * j ∧ ∃ ξ : X u2 No, wr = ξ.v) (fun _ i _ => ys.length - (intOf i).toNat)
      case atStart => exact ⟨0, Nat.zero_le _, rfl, acc, rfl, by simp, by have := HAl.out; omega, ζ, rfl⟩
      case round =>
        obtain ⟨j, hj, rfl, ac2, rfl, hA, hal, ξ2, rfl⟩ := hrel
        have HA := Lib.hid hA
        clear hA
        by_cases hlt2 : j < ys.length
        · obtain ⟨b, o, x, rfl, hx, c0, c1⟩ := files_get F.out hlt2
          obtain ⟨hxl1, hxl2⟩ := HLf.out x (List.mem_of_getElem? hx)
          have hil := HIx.out x.2.length (by omega)
          have HIc := Lib.hid (fun v (hv : Ext u2 v) => HI.out x.2.length v (by omega) (XU2.out.then_ext hv))
          have HS : Hid ((ys.take (j + 1)).flatMap filT = (ys.take j).flatMap filT ++ ([32] ++ x.1 ++ [32] ++ Lib.itoa x.2.length ++ [58] ++ x.2)) := by
            rw [Hid, List.take_add_one, hx, List.flatMap_append]; simp [filT]
          generalize Lib.itoa (x.2.length : Int) = il at hil HIc HS
          obtain ⟨u3, hu3⟩ : ∃ u, u = ξ2.v.alloc (.cells #[S x.1, S x.2] 75) := ⟨_, rfl⟩
          have hcu : Cs u3 ξ2.v.heap.size 75 #[S x.1, S x.2] := by rw [hu3]; exact Cs.new _ _ _
          have XU3 : Hid (Ext u2 u3) := by rw [hu3]; exact ξ2.h.alloc _
          have e0 : ∀ ξ : X u3 No, ξ.v.cell? ⟨ξ2.v.heap.size, 0, none⟩ = some (S x.1) := hcu.x id 0
          have e1 : ∀ ξ : X u3 No, ξ.v.cell? ⟨ξ2.v.heap.size, 1, none⟩ = some (S x.2) := hcu.x id 1
          clear hx hcu
          go_upto_region 11 with fail
          rw [← hu3]
          clear hu3
          refine Mix.wp_draw [9] 100 (Cl u3 No) (by kernel_rfl) (by kernel_rfl) (Cl.of (Only.refl _ _).drew) ?_
          obtain ⟨ν0, hν0⟩ : ∃ ν0 : X u3 No, ν0.v = u3.drew := ⟨⟨_, (Only.refl _ _).drew⟩, rfl⟩
          rw [← hν0]
          clear hν0
          (repeat' (refine Mix.lex_quiet0 rfl rfl rfl ?_; intro K hK; go_big_quiet_op; go_big_quiet_on))
          ((first | refine Mix.lex_goes0 rfl rfl ?_ | refine Mix.lex_goesG rfl rfl rfl (by with_reducible rfl) rfl ?_); intro K hK; go_simp); refine (HIc.out _ (XU3.out.then_ext ν0.h)).mono ?_; rintro e uu ⟨rfl, hu⟩; obtain ⟨ν1, hnew⟩ : ∃ ξ : X u3 No, ξ.v = uu := ⟨⟨uu, ν0.h.then_ext hu⟩, rfl⟩; subst hnew; have Hν1 := Lib.hid hu; refine ⟨_, rfl, hK _ _ (fun _ => ⟨ν1, rfl⟩) ?_⟩; clear hK K hu; simp only [Act.put, List.setIfInBounds_toArray, List.set_cons_succ, List.set_cons_zero]; (repeat' (first | (refine Mix.lex_quiet0 rfl rfl rfl ?_; intro K hK; go_big_quiet_op; go_big_quiet_on) | (refine Mix.lex_quietG rfl rfl rfl (by with_reducible rfl) rfl rfl ?_; intro K hK; go_big_quiet_op; go_big_quiet_on) | ((first | refine Mix.lex_skipT rfl rfl rfl (by with_reducible rfl) ?_ | refine Mix.lex_skipF rfl rfl rfl (by with_reducible rfl) ?_ | refine Mix.lex_skipU rfl rfl rfl (by with_reducible rfl) ?_); simp only [Act.put, List.setIfInBounds_toArray, List.set_cons_succ, List.set_cons_zero]) | (refine Mix.lex_part rfl rfl rfl rfl (fun hq => ?_) (fun hq => ?_) <;> (fail_if_success (guard_hyp hq :ₛ true = true)) <;> (fail_if_success (guard_hyp hq :ₛ false = false)) <;> first | (exfalso; cases hq; done) | (exfalso; simp only [decide_eq_true_eq, decide_eq_false_iff_not, beq_iff_eq, beq_eq_false_iff_ne, ne_eq, Int.not_lt, Int.not_le] at hq; omega) | simp only [Act.put, List.setIfInBounds_toArray, List.set_cons_succ, List.set_cons_zero])))
          refine Mix.lex_nil ?_
          have XU4 : Hid (Ext u2 ν1.v) := XU3.out.then_ext ν1.h
          go_wp2_with fail
          go_roundw
          case rel => exact ⟨j + 1, by omega, by go_num, _, rfl, by rw [HS.out, HA.out]; simp, by simp only [List.length_append, List.length_cons]; omega, ⟨_, XU4.out⟩, rfl⟩
          case measure => simp [intOf]; omega
        · have HRes : Hid (R = ac2) := by
            have := HA.out
            rw [List.take_of_length_le (by omega)] at this
            rw [Hid, HT.out, this, HA2.out]
          clear HA
          go_wp2_with fail
          go_ret
          rw [HRes.out]
          exact ⟨rfl, HX0.out.then_ext (XU2.out.then_ext ξ2.h)⟩
def onlyL (ns : List Str) (xs : List File) : List File := xs.filter fun f => inS ns f.1
def Ov.cut (o : Ov) : Ov := { o with base := onlyL o.needs o.base }
def Ov.Tg (ts : List Str) (o : Ov) : Prop := o.targets = ts ∧ ∀ f ∈ o.own, inS ts f.1 = true
theorem Ov.Tg.wr {ts : List Str} {o : Ov} (h : o.Tg ts) (n s : Str) : (o.wr n s).Tg ts := by
  refine ⟨(Ov.wr_targets _ _ _).trans h.1, fun f hf => ?_⟩
  unfold Ov.wr at hf
  split at hf
  · rename_i he
    rcases mem_putL hf with rfl | hf
    · unfold Ov.wrF at he
      rw [h.1] at he
      show inS ts n = true
      cases hi : inS ts n with
      | true => rfl
      | false => rw [hi] at he; simp at he
    · exact h.2 f hf
  · exact h.2 f hf
theorem Ov.Tg.run {ts : List Str} {o : Ov} (h : o.Tg ts) (cmd : Str) : (o.run cmd).1.Tg ts := by
  unfold Ov.run Ov.two Ov.join
  repeat' split
  all_goals first
    | exact h.wr _ _
    | exact h
theorem Ov.Tg.runs {ts : List Str} : ∀ (cs : List Str) {o : Ov}, o.Tg ts → (o.runs cs).1.Tg ts
  | [], _, h => h
  | c :: cs, o, h => by
    rw [Ov.runs_cons]
    split
    · exact Ov.Tg.runs cs (h.run c)
    · exact h.run c
theorem allF_targets (xs : List File) (g : Grp) : ∀ f ∈ (allF xs g).1, inS g.targets f.1 = true := by
  intro f hf
  have h : ((ov0 xs g).runs g.cmds).1.Tg g.targets := Ov.Tg.runs g.cmds ⟨rfl, fun f hf => by cases hf⟩
  unfold allF at hf
  split at hf
  · split at hf
    · cases hf
    · exact h.2 f hf
  · cases hf
def putAll (own l : List File) : List File := own.foldl (fun l f => putL fk f l) l
def rcd0 : Rcd := ⟨[], [], []⟩
def oneF (l : List File) (g : Grp) : (List File × Rcd) × Int :=
  if (allF l g).2 ≠ 0 then (([], rcd0), (allF l g).2)
  else if 300 < (recT (recOf g l (allF l g).1)).length then (([], rcd0), 10)
  else (((allF l g).1, recOf g l (allF l g).1), 0)
def unitM (gs : List Grp) : List Nat → List File → List File → List (Str × Rcd) → (List File × List (Str × Rcd)) × Int
  | [], _, out, kept => ((out, kept), 0)
  | k :: ks, l, out, kept => match gs[k]? with
    | none => unitM gs ks l out kept
    | some g => if g.phony = true then unitM gs ks l out kept
      else if (oneF l g).2 ≠ 0 then (([], []), (oneF l g).2)
      else unitM gs ks (putAll (oneF l g).1.1 l) (putAll (oneF l g).1.1 out) (kept ++ [(g.targets.headD [], (oneF l g).1.2)])
theorem putAll_len : ∀ (own l : List File), (putAll own l).length ≤ l.length + own.length
  | [], l => Nat.le_refl _
  | f :: own, l => by
    have h1 := putAll_len own (putL fk f l)
    have h2 := length_putL (key := fk) f l
    show (putAll own (putL fk f l)).length ≤ _
    rw [List.length_cons]
    omega
theorem putAll_rise : ∀ (own : List File) {l : List File}, Rise fk l → Rise fk (putAll own l)
  | [], _, h => h
  | f :: own, _, h => putAll_rise own (rise_putL h f)
theorem putAll_mem : ∀ (own : List File) {l : List File} {x : File}, x ∈ putAll own l → x ∈ own ∨ x ∈ l
  | [], _, _, h => .inr h
  | f :: own, l, x, h => by
    rcases putAll_mem own h with h | h
    · exact .inl (List.mem_cons_of_mem _ h)
    · rcases mem_putL h with rfl | h
      · exact .inl List.mem_cons_self
      · exact .inr h
theorem Ov.Fit.runs {xs : List File} {ns ts : List Str} : ∀ (cs : List Str) {k : Nat} {o : Ov}, o.Fit xs ns ts k → (o.runs cs).1.Fit xs ns ts (k + cs.length)
  | [], _, _, h => h
  | c :: cs, k, o, h => by
    rw [Ov.runs_cons, List.length_cons]
    have h1 := h.run c
    split
    · have h2 := Ov.Fit.runs cs h1
      rw [show k + (cs.length + 1) = k + 1 + cs.length by omega]
      exact h2
    · exact ⟨h1.eb, h1.en, h1.et, h1.rise, (show (o.run c).1.own.length ≤ _ by have := h1.len; omega), h1.tx⟩
theorem allF_fit (xs : List File) (g : Grp) : Rise fk (allF xs g).1 ∧ (allF xs g).1.length ≤ g.cmds.length ∧ ∀ f ∈ (allF xs g).1, f.2.length ≤ 1000 := by
  have h := Ov.Fit.runs g.cmds (ov0_fit xs g)
  rw [Nat.zero_add] at h
  unfold allF
  split
  · split
    · exact ⟨List.Pairwise.nil, Nat.zero_le _, fun f hf => by cases hf⟩
    · exact ⟨h.rise, h.len, h.tx⟩
  · exact ⟨List.Pairwise.nil, Nat.zero_le _, fun f hf => by cases hf⟩
theorem results_tct {fn : Func} {t p u : Tmp} {ty : TypeId} (h : fn.results = #[.tmp t, .cell p ty, .tmp u]) (tmps : Array Value) (P : Program) (w : World) :
    (results fn tmps).run P w = ((asAddr (tmps.getD p undef)).run P w).andThen fun a w₁ => ((loadVar ty a).run P w₁).andThen fun v w₂ => .ok (.tuple #[tmps.getD t undef, v, tmps.getD u undef]) w₂ := by
  simp only [results, h]
  simp [Sem.run_bind, Result.andThen]
theorem bodyPost_tct {P : Program} {fn : Func} {R : Ending → World → Prop} {a : Act} {w : World} {t p u : Tmp} {ty : TypeId} {ad : Addr} {v : Value} (h : fn.results = #[.tmp t, .cell p ty, .tmp u])
    (hp : a.tmps.getD p undef = .pointer (some ad)) (hd : a.defers = []) (hl : (loadVar ty ad).run P w = .ok v w) (hR : R (.returned (.tuple #[a.tmps.getD t undef, v, a.tmps.getD u undef])) w) : bodyPost P fn R .ret a w := by
  refine bodyPost_ret (v := .tuple #[a.tmps.getD t undef, v, a.tmps.getD u undef]) ?_ hd hR
  rw [results_tct h, hp]
  simp [asAddr, Sem.run_pure, Result.andThen, hl]
theorem recOf_lim {l own : List File} {g : Grp} (hl : ∀ f ∈ l, f.1.length ≤ 10000 ∧ f.2.length ≤ 1000) (ho : ∀ f ∈ own, f.1.length ≤ 10000 ∧ f.2.length ≤ 1000) (h1 : g.cmds.length ≤ 100) (h2 : g.needs.length ≤ 100) (h3 : own.length ≤ 100) (h4 : ∀ c ∈ g.cmds, c.length ≤ 10000) (h5 : ∀ n ∈ g.needs, n.length ≤ 10000) : (recOf g l own).Lim := by
  refine ⟨h1, Nat.le_trans (nedF_len l g.needs) h2, h3, h4, ?_, fun x hx => ⟨(ho x hx).1, by have := (ho x hx).2; omega⟩⟩
  intro x hx
  have hx : x ∈ nedF l g.needs := hx
  obtain ⟨n, hn, hx⟩ := List.mem_flatMap.1 hx
  split at hx
  · obtain rfl := List.mem_singleton.1 hx
    exact ⟨h5 n hn, Nat.le_trans (getT_len fun f hf => (hl f hf).2) (by omega)⟩
  · cases hx
theorem allF_names {xs : List File} {g : Grp} (h : ∀ t ∈ g.targets, t.length ≤ 10000) : ∀ f ∈ (allF xs g).1, f.1.length ≤ 10000 ∧ f.2.length ≤ 1000 := fun f hf =>
  ⟨h f.1 (by have := allF_targets xs g f hf; simpa [inS] using this), (allF_fit xs g).2.2 f hf⟩
open Go Go.RowKit Go.Shelf
attribute [local go_sem] Oper.semAt_some
def bseq (xs : List File) (k : Nat) : List (Nat × File) := (List.range k).map fun j => (xs.length - 1 - j, xs.getD (xs.length - 1 - j) ([], []))
theorem bseq_succ (xs : List File) (k : Nat) : bseq xs (k + 1) = bseq xs k ++ [(xs.length - 1 - k, xs.getD (xs.length - 1 - k) ([], []))] := by simp [bseq, List.range_succ]
theorem bseq_length (xs : List File) (k : Nat) : (bseq xs k).length = k := by simp [bseq]
theorem bseq_snd (xs : List File) {k : Nat} (hk : k ≤ xs.length) : (bseq xs k).map (·.2) = xs.reverse.take k := by
  apply List.ext_getElem
  · simp [bseq, hk]
  · intro i h1 h2
    have hi : i < k := by simpa [bseq] using h1
    simp only [bseq, List.getElem_map, List.getElem_range, List.getElem_take, List.getElem_reverse]
    rw [List.getD_eq_getElem?_getD, List.getElem?_eq_getElem (by omega)]
    rfl
def fndL (k : Str) (xs : List File) : Option File := xs.reverse.find? fun y => decide (y.1 = k)
theorem fnd_none {k : Str} {xs : List File} (h : ∀ p ∈ bseq xs xs.length, p.2.1 ≠ k) : fndL k xs = none := by
  unfold fndL
  rw [List.find?_eq_none]
  intro y hy
  have h2 := bseq_snd xs (Nat.le_refl _)
  rw [List.take_of_length_le (by simp)] at h2
  rw [← h2] at hy
  obtain ⟨p, hp, rfl⟩ := List.mem_map.1 hy
  simpa using h p hp
theorem fnd_some {k : Str} {xs : List File} {m : Nat} (hm : m + 1 ≤ xs.length) (h : ∀ p ∈ bseq xs m, p.2.1 ≠ k) (h1 : (xs.getD (xs.length - 1 - m) ([], [])).1 = k) : fndL k xs = some (xs.getD (xs.length - 1 - m) ([], [])) := by
  unfold fndL
  have h2 := bseq_snd xs hm
  rw [bseq_succ, List.map_append] at h2
  have h3 : xs.reverse = (bseq xs m).map (·.2) ++ (xs.getD (xs.length - 1 - m) ([], []) :: xs.reverse.drop (m + 1)) :=
    (List.take_append_drop (m + 1) xs.reverse).symm.trans ((congrArg (· ++ xs.reverse.drop (m + 1)) h2.symm).trans (by simp))
  rw [h3, List.find?_append]
  have h4 : ((bseq xs m).map (·.2)).find? (fun y => decide (y.1 = k)) = none := by
    rw [List.find?_eq_none]
    intro y hy
    obtain ⟨p, hp, rfl⟩ := List.mem_map.1 hy
    simpa using h p hp
  rw [h4, List.find?_cons]
  simp only [decide_eq_true h1, Option.none_or]
theorem ownFrom_const {β : Type} (B : Nat) (p : β → Prop) : OwnFrom B (fun s _ => p s) := fun _ _ _ _ hs _ _ => hs
abbrev kvT : TypeId := 110
set_option maxRecDepth 100000 in
set_option maxHeartbeats 2000000 in
theorem back1_in (F : Fence) (n : Nat) (hf : F.fn 177) (hro : F.round = none) (hn : 1 ≤ n) (l Bs n₀ b off len cap : Nat) (xs : List File) (hlen : xs.length = len) (hl : len ≤ 1000000) (hb : b < n₀) (hBl : Bs < n₀) (J Jx : List (Nat × File) → World → Prop)
    (hY : ∀ pre x W, J pre W → pre.length < len → YieldAt F (n - 1) Tryz.prog l #[.int .i64 (x.1 : Int), .agg #[S x.2.1, S x.2.2]] W fun e W' =>
      (e = .returned (.bool true) ∧ J (pre ++ [x]) W' ∧ Below n₀ W W') ∨ (e = .returned (.bool false) ∧ Jx (pre ++ [x]) W'))
    (W : World) (hBs : W.cell? ⟨Bs, 0, none⟩ = some (.slice (some ⟨b, off, none⟩) len cap)) (hc : ∀ j, j < len → W.cell? ⟨b, off + j * 2, none⟩ = some (S (xs.getD j ([], [])).1) ∧ W.cell? ⟨b, off + j * 2 + 1, none⟩ = some (S (xs.getD j ([], [])).2)) (h0 : J [] W) :
    CallsIn F n Tryz.prog 177 #[.func (.yield l) #[] #[], .pointer (some ⟨Bs, 0, none⟩)] W fun e W' => (∃ v, e = .returned v) ∧
      ((∃ ys, ys = bseq xs len ∧ J ys W') ∨ (∃ pre, (∃ k, k ≤ len ∧ pre = bseq xs k) ∧ Jx pre W')) := by
  refine callsIn_of_wp Tryz.func177 rfl hf ?_ hro
  simp only [Tryz.ntmps177, List.size_toArray, List.length_cons, List.length_nil, Nat.reduceAdd, Nat.reduceSub, Array.replicate_succ, Array.replicate_zero, List.push_toArray, List.append_toArray, List.nil_append, List.cons_append]
  gi_wp2
  gi_loopw [3] (fun i wr => ∃ k : Nat, k ≤ len ∧ i = .int .i64 ((len : Int) - 1 - k) ∧ J (bseq xs k) wr ∧ Below n₀ W wr)
    (fun i _ => (intOf i + 1).toNat)
  case atStart => exact ⟨0, Nat.zero_le _, by simp, h0, Below.refl _ _⟩
  case round =>
    obtain ⟨k, hk, rfl, hJs, hnx⟩ := hrel
    have hBx := (hnx.cell (p := ⟨Bs, 0, none⟩) hBl).trans hBs
    by_cases hlt : k < len
    · obtain ⟨j, hj⟩ : ∃ j : Nat, j = len - 1 - k := ⟨_, rfl⟩
      have hji : (len : Int) - 1 - k = (j : Int) := by omega
      have hjl : j < len := by omega
      have hcx1 := (hnx.cell (p := ⟨b, off + j * 2, none⟩) hb).trans (hc j hjl).1
      have hcx2 := (hnx.cell (p := ⟨b, off + j * 2 + 1, none⟩) hb).trans (hc j hjl).2
      have hs := bseq_succ xs k
      rw [hlen, ← hj] at hs
      obtain ⟨x, hx⟩ : ∃ x, x = xs.getD j ([], []) := ⟨_, rfl⟩
      rw [← hx] at hcx1 hcx2 hs
      obtain ⟨fn, tmps, assign, body, hy, hR⟩ := hY _ (j, x) wr hJs (by rw [bseq_length]; exact hlt)
      dsimp only at hy
      rw [hji]
      have HS := Lib.hid hs
      have HC := Lib.hid hc
      clear hs hx hj hc
      gi_wp2
      refine hR.mono ?_
      rintro e W3 (⟨rfl, hJ3, hk3⟩ | ⟨rfl, hJx3⟩)
      · gi_wp2
        go_roundw
        case rel => exact ⟨k + 1, by omega, (by first | go_num | (congr 1; omega) | simp), (by rw [HS.out]; exact hJ3), hnx.trans hk3⟩
        case measure => simp [intOf] <;> omega
      · gi_wp2
        refine bodyPost_ret (results_none rfl _ _ _) rfl ?_
        exact ⟨⟨_, rfl⟩, .inr ⟨_, ⟨k + 1, by omega, HS.out.symm⟩, hJx3⟩⟩
    · obtain rfl : k = len := by omega
      have hji : (k : Int) - 1 - k = -1 := by omega
      rw [hji]
      gi_wp2
      go_end0
      exact ⟨⟨_, rfl⟩, .inl ⟨_, rfl, hJs⟩⟩
set_option maxRecDepth 100000 in
set_option maxHeartbeats 1000000 in
theorem back1_nil_in (F : Fence) (n : Nat) (hf : F.fn 177) (hro : F.round = none) (l Bs cap : Nat) (A : Option Addr) (J : List (Nat × File) → World → Prop) (W : World) (hBs : W.cell? ⟨Bs, 0, none⟩ = some (.slice A 0 cap)) (h0 : J [] W) :
    CallsIn F n Tryz.prog 177 #[.func (.yield l) #[] #[], .pointer (some ⟨Bs, 0, none⟩)] W fun e W' => (∃ v, e = .returned v) ∧ J [] W' := by
  refine callsIn_of_wp Tryz.func177 rfl hf ?_ hro
  simp only [Tryz.ntmps177, List.size_toArray, List.length_cons, List.length_nil, Nat.reduceAdd, Nat.reduceSub, Array.replicate_succ, Array.replicate_zero, List.push_toArray, List.append_toArray, List.nil_append, List.cons_append]
  gi_wp2
  gi_loopw [3] (fun i wr => i = .int .i64 (-1) ∧ J [] wr) (fun _ _ => 0)
  case atStart => exact ⟨by simp, h0⟩
  case round =>
    obtain ⟨rfl, hJs⟩ := hrel
    gi_wp2
    go_end0
    exact ⟨⟨_, rfl⟩, hJs⟩
set_option maxHeartbeats 1000000 in
theorem back_in (F : Fence) (n : Nat) (hf : F.fn 167) (hro : F.round = none) (a : Option Addr) (len cap : Nat) (w : World) :
    CallsIn F n Tryz.prog 167 #[.slice a len cap] w fun e w' => e = .returned (.func (.func 177) #[] #[.pointer (some ⟨w.heap.size, 0, none⟩)]) ∧ w' = w.alloc (.cells #[.slice a len cap] 25) := by
  refine callsIn_of_wp Tryz.func167 rfl hf ?_ hro
  simp only [Tryz.ntmps167, List.size_toArray, List.length_cons, List.length_nil, Nat.reduceAdd, Nat.reduceSub, Array.replicate_succ, Array.replicate_zero, List.push_toArray, List.append_toArray, List.nil_append, List.cons_append]
  gi_wp2
  go_ret
  exact ⟨rfl, rfl⟩
theorem back_stops (F : Fence) (n : Nat) (hf : F.fn 177) (hro : F.round = none) (hn : 1 ≤ n) (Bs n₀ : Nat) (A : Option Addr) (len cap : Nat) (xs : List File) (hl : len ≤ 1000000) (w : World) (hBl : Bs < n₀) (hn₀ : n₀ = w.heap.size)
    (hc : w.cell? ⟨Bs, 0, none⟩ = some (.slice A len cap)) (hI : SlR fileF w A len xs) :
    SeqStopsK F n Tryz.prog 177 #[.pointer (some ⟨Bs, 0, none⟩)] (fun x : Nat × File => #[Value.int .i64 (x.1 : Int), Value.agg #[S x.2.1, S x.2.2]]) (Below n₀) (fun ys => ys = bseq xs len)
      (fun pre => ∃ k, k ≤ len ∧ pre = bseq xs k) len w := fun l J Jx W hW _ _ hY h0 => by
  subst hn₀
  have hc' := (hW.cell (p := ⟨Bs, 0, none⟩) hBl).trans hc
  by_cases h1 : len = 0
  · subst h1
    exact (back1_nil_in F n hf hro l Bs cap A J W hc' h0).mono fun e W' ⟨he, hj⟩ => ⟨he, .inl ⟨_, rfl, hj⟩⟩
  · obtain ⟨b, o, rfl, hb, hcells⟩ := hI.2 (by omega)
    refine back1_in F n hf hro hn l Bs _ b o len cap xs hI.1 hl hb hBl J Jx hY W hc' (fun j hj => ?_) h0
    have hx : xs[j]? = some (xs.getD j ([], [])) := by
      rw [List.getD_eq_getElem?_getD, List.getElem?_eq_getElem (by rw [hI.1]; exact hj)]; rfl
    exact ⟨(hW.cell (p := ⟨b, _, none⟩) hb).trans (hcells j _ hx 0 _ rfl), (hW.cell (p := ⟨b, _, none⟩) hb).trans (hcells j _ hx 1 _ rfl)⟩
set_option maxRecDepth 100000 in
set_option maxHeartbeats 4000000 in
theorem find_in (F : Fence) (n : Nat) (h1 : F.fn 157) (h2 : F.fn 167) (h3 : F.fn 177) (hro : F.round = none) (hn : 3 ≤ n) (A : Option Addr) (len cap : Nat) (xs : List File) (hl : len ≤ 1000000) (name : Str) (w : World) (hI : SlR fileF w A len xs) :
    CallsIn F n Tryz.prog 157 #[.slice A len cap, S name] w fun e W' => e = .returned (.tuple #[S (((fndL name xs).map (·.2)).getD []), .bool (fndL name xs).isSome]) ∧ Below w.heap.size w W' := by
  have hn1 : 1 ≤ n := by omega
  refine callsIn_of_wp_marks Tryz.func157 rfl h1 ?_ hro
  simp only [Tryz.ntmps157, List.size_toArray, List.length_cons, List.length_nil, Nat.reduceAdd, Nat.reduceSub, Array.replicate_succ, Array.replicate_zero, List.push_toArray, List.append_toArray, List.nil_append, List.cons_append]
  gi_wp2_with (gi_at_call 167; refine (back_in F (n - 1) h2 hro _ _ _ _).mono ?_; rintro e w' ⟨rfl, rfl⟩)
  have b0 := Boxed.new w 9 (S name)
  have b1 := Boxed.new (w.alloc (.cells #[S name] 9)) 9 (S [])
  have b2 := Boxed.new ((w.alloc (.cells #[S name] 9)).alloc (.cells #[S []] 9)) 4 (.bool false)
  have b3 := Boxed.new (((w.alloc (.cells #[S name] 9)).alloc (.cells #[S []] 9)).alloc (.cells #[.bool false] 4)) 25 (.slice A len cap)
  have hX0 : Ext w ((((w.alloc (.cells #[S name] 9)).alloc (.cells #[S []] 9)).alloc (.cells #[.bool false] 4)).alloc (.cells #[.slice A len cap] 25)) := ((((Only.refl No w).alloc _).alloc _).alloc _).alloc _
  have hsz : ((((w.alloc (.cells #[S name] 9)).alloc (.cells #[S []] 9)).alloc (.cells #[.bool false] 4)).alloc (.cells #[.slice A len cap] 25)).heap.size = w.heap.size + 4 := by simp
  have b0' := ((b0.alloc (.cells #[S []] 9)).alloc (.cells #[.bool false] 4)).alloc (.cells #[.slice A len cap] 25)
  have b1' := (b1.alloc (.cells #[.bool false] 4)).alloc (.cells #[.slice A len cap] 25)
  have b2' := b2.alloc (.cells #[.slice A len cap] 25)
  simp only [World.size_alloc] at b1' b2' b3
  clear b0 b1 b2
  change Code.wpIn _ _ _ _ _ _ (World.alloc (((w.alloc (.cells #[S name] 9)).alloc (.cells #[S []] 9)).alloc (.cells #[.bool false] 4)) (.cells #[.slice A len cap] 25))
  obtain ⟨W0, hW0⟩ : ∃ W0, ((((w.alloc (.cells #[S name] 9)).alloc (.cells #[S []] 9)).alloc (.cells #[.bool false] 4)).alloc (.cells #[.slice A len cap] 25)) = W0 := ⟨_, rfl⟩
  rw [hW0] at b0' b1' b2' b3 hX0 hsz ⊢
  clear hW0
  have hB0 : Below w.heap.size w W0 := hX0.toBelow
  refine wpIn_rangeFunc_ownH hro hn1 (gf := 177) (lb := #[.pointer (some ⟨w.heap.size + 1 + 1 + 1, 0, none⟩)]) rfl h3 (enters_of Tryz.func177 (by kernel_rfl) rfl)
    (back_stops F (n - 1) h3 hro (by omega) (w.heap.size + 1 + 1 + 1) W0.heap.size A len cap xs hl W0 (by omega) rfl b3.cell (hI.ext hX0)) belowK_t (belowK_b (Nat.le_refl _)) (Below.refl _ _) (fun _ => rfl)
    (fun pre W => ((Boxed W w.heap.size 9 (S name) ∧ Boxed W (w.heap.size + 1) 9 (S [])) ∧ Boxed W (w.heap.size + 1 + 1) 4 (.bool false)) ∧ (∀ p ∈ pre, p.2.1 ≠ name) ∧ Below w.heap.size W0 W)
    (fun c pre W => (Boxed W (w.heap.size + 1) 9 (S ((pre.getLast?.map (·.2.2)).getD [])) ∧ Boxed W (w.heap.size + 1 + 1) 4 (.bool true)) ∧ (c = .ret ∧ ∃ ini last, pre = ini ++ [last] ∧ (∀ p ∈ ini, p.2.1 ≠ name) ∧ last.2.1 = name) ∧ Below w.heap.size W0 W)
    (OwnFrom.and (OwnFrom.and (OwnFrom.and (Own.from (boxed_own _ _ _) _) (Own.from (boxed_own _ _ _) _)) (Own.from (boxed_own _ _ _) _)) (OwnFrom.and (ownFrom_const _ (fun pre : List (Nat × File) => ∀ p ∈ pre, p.2.1 ≠ name)) (ownFrom_below (w₀ := W0) (by omega) (by omega))))
    (fun c => OwnFrom.and (OwnFrom.and (Own.from (boxed_own _ _ _) _) (Own.from (boxed_own _ _ _) _)) (OwnFrom.and (ownFrom_const _ (fun pre : List (Nat × File) => c = .ret ∧ ∃ ini last, pre = ini ++ [last] ∧ (∀ p ∈ ini, p.2.1 ≠ name) ∧ last.2.1 = name)) (ownFrom_below (w₀ := W0) (by omega) (by omega))))
    ⟨⟨⟨b0', b1'⟩, b2'⟩, by simp, Below.refl _ _⟩
    (fun x a' W => ∃ Bx, (W.cell? ⟨Bx, 0, none⟩ = some (S x.2.1) ∧ W.cell? ⟨Bx, 1, none⟩ = some (S x.2.2)) ∧ a' = { tmps := #[.slice A len cap, S name, undef, .pointer (some ⟨w.heap.size, 0, none⟩), .pointer (some ⟨w.heap.size + 1, 0, none⟩), .pointer (some ⟨w.heap.size + 1 + 1, 0, none⟩), undef, .pointer (some ⟨Bx, 0, none⟩), .slice A len cap, .func (.func 177) #[] #[.pointer (some ⟨w.heap.size + 1 + 1 + 1, 0, none⟩)], .int .i64 (x.1 : Int), .agg #[S x.2.1, S x.2.2], undef, undef, undef, undef, undef, undef], defers := [] })
    (fun x a' _ X Y row hs hg hr => by obtain ⟨Bx, ⟨h1, h2⟩, h3⟩ := hs; exact ⟨Bx, ⟨cell_kept h1 hg (fun r e => (hr r e).2), cell_kept h2 hg (fun r e => (hr r e).2)⟩, h3⟩)
    ?assign ?body ?done ?stop
  case assign =>
    rintro l pre x W K ⟨⟨⟨c0, c1⟩, c2⟩, hp, hB⟩ hK
    have hsW := hB.size
    have hcs : Cs (W.alloc (.cells #[S x.2.1, S x.2.2] kvT)) W.heap.size kvT #[S x.2.1, S x.2.2] := Cs.new W kvT #[S x.2.1, S x.2.2]
    gi_wp2
    exact hK _ _ ((KeepsOthers.alloc _ _).from _) ((Below.refl _ W).alloc hsW _)
      ⟨⟨⟨c0.alloc _, c1.alloc _⟩, c2.alloc _⟩, hp, hB.alloc (by omega) _⟩ ⟨W.heap.size, ⟨hcs.cell 0, hcs.cell 1⟩, rfl⟩
  case body =>
    rintro l pre x a' W hl2 ⟨r, hr⟩ ⟨⟨⟨c0, c1⟩, c2⟩, hp, hB⟩ ⟨Bx, ⟨e1, e2⟩, rfl⟩ hlt
    have d0 := c0.cell
    have d1 := c1.cell
    have d2 := c2.cell
    have f1 := c1.frozen
    have f2 := c2.frozen
    by_cases hx : x.2.1 = name
    · have hq : (x.2.1 == name) = true := by simpa using hx
      gi_wp2
      exact ⟨((KeepsOthers.setCell _ _ _).trans (KeepsOthers.setCell _ _ _)).from _, ⟨(by simpa using ((c1.set (S x.2.2)).other (by omega) (.bool true))), (c2.other (by omega) _).set _⟩, ⟨rfl, pre, x, rfl, hp, hx⟩, (hB.setCell (p := ⟨w.heap.size + 1, 0, none⟩) (by show w.heap.size ≤ w.heap.size + 1; omega) _).setCell (p := ⟨w.heap.size + 1 + 1, 0, none⟩) (by show w.heap.size ≤ w.heap.size + 1 + 1; omega) _⟩
    · have hq : (x.2.1 == name) = false := by simpa using hx
      gi_wp2
      exact ⟨KeepsFrom.refl _ _, Below.refl _ _, ⟨⟨c0, c1⟩, c2⟩, fun p hp' => (List.mem_append.1 hp').elim (hp p) (fun e => by simp at e; subst e; exact hx), hB⟩
  case done =>
    rintro D ys W hD rfl ⟨⟨⟨c0, c1⟩, c2⟩, hp, hB⟩ hK
    have HN := Lib.hid (fnd_none (k := name) (xs := xs) (by have := hI.1; rw [this]; exact hp))
    have d1 := c1.cell
    have d2 := c2.cell
    have f1 := c1.frozen
    have f2 := c2.frozen
    gi_wp2
    have hK' := ((KeepsOthers.setCell W ⟨w.heap.size + 1, 0, none⟩ (S [])).trans (KeepsOthers.setCell _ ⟨w.heap.size + 1 + 1, 0, none⟩ (.bool false))).same D _ hK rfl
    refine ⟨by simp, .inl ⟨_, _, rfl, run_takeDeferred hK', ?_⟩⟩
    have r1 := cell_kept (((c1.set (S [])).other (by omega) (.bool false)).cell : ((W.setCell ⟨w.heap.size + 1, 0, none⟩ (S [])).setCell ⟨w.heap.size + 1 + 1, 0, none⟩ (.bool false)).cell? ⟨w.heap.size + 1, 0, none⟩ = some (S [])) (grownBy_putObj' _ D (.deferred none)) (fun r e => by cases e; exact ⟨_, hK', rfl⟩)
    have r2 := cell_kept (((c2.other (by omega) (S [])).set (.bool false)).cell : ((W.setCell ⟨w.heap.size + 1, 0, none⟩ (S [])).setCell ⟨w.heap.size + 1 + 1, 0, none⟩ (.bool false)).cell? ⟨w.heap.size + 1 + 1, 0, none⟩ = some (.bool false)) (grownBy_putObj' _ D (.deferred none)) (fun r e => by cases e; exact ⟨_, hK', rfl⟩)
    refine ⟨.tuple #[S [], .bool false], ?_, ⟨by rw [HN.out]; rfl, hB0.trans (((hB.setCell (p := ⟨w.heap.size + 1, 0, none⟩) (by show w.heap.size ≤ w.heap.size + 1; omega) _).setCell (p := ⟨w.heap.size + 1 + 1, 0, none⟩) (by show w.heap.size ≤ w.heap.size + 1 + 1; omega) _).trans (belowK_b (w := w) (Nat.le_refl _) _ D _ _ (by omega) hK' rfl rfl))⟩⟩
    simp [results, Tryz.f157, go_sem, r1, r2]
  case stop =>
    rintro D c pre W hD ⟨k, hk, rfl⟩ ⟨⟨c1, c2⟩, ⟨rfl, ini, last, e1, e2, e3⟩, hB⟩ hK
    obtain ⟨m, rfl⟩ : ∃ m, k = m + 1 := by
      cases k with
      | zero => simp [bseq] at e1
      | succ m => exact ⟨m, rfl⟩
    rw [bseq_succ] at e1
    obtain ⟨rfl, e5⟩ := List.append_inj' e1 rfl
    obtain rfl := by simpa using e5
    have HN := Lib.hid (fnd_some (by rw [hI.1]; exact hk) e2 e3)
    rw [bseq_succ, List.getLast?_append] at c1
    gi_wp2
    refine ⟨by simp, .inl ⟨_, _, rfl, run_takeDeferred hK, ?_⟩⟩
    have r1 := cell_kept c1.cell (grownBy_putObj' _ D (.deferred none)) (fun r e => by cases e; exact ⟨_, hK, rfl⟩)
    have r2 := cell_kept c2.cell (grownBy_putObj' _ D (.deferred none)) (fun r e => by cases e; exact ⟨_, hK, rfl⟩)
    refine ⟨.tuple #[S (xs.getD (xs.length - 1 - m) ([], [])).2, .bool true], ?_, ⟨by rw [HN.out]; rfl, hB0.trans (hB.trans (belowK_b (w := w) (Nat.le_refl _) _ D _ _ (by omega) hK rfl rfl))⟩⟩
    simp [results, Tryz.f157, go_sem, r1, r2]
theorem vfind_c {A : Option Addr} {len cap : Nat} {xs : List File} (hl : len ≤ 1000000) (name : Str) {w : World} (hI : SlR fileF w A len xs) :
    Calls Tryz.prog 157 #[.slice A len cap, S name] w fun e w' => e = .returned (.tuple #[S (((fndL name xs).map (·.2)).getD []), .bool (fndL name xs).isSome]) ∧ Ext w w' := by
  refine (callsIn_wide (n := 3)).1 ((find_in Fence.wide 3 trivial trivial trivial rfl (by omega) A len cap xs hl name w hI).mono ?_)
  rintro e w' ⟨rfl, h⟩
  exact ⟨rfl, Only.below h⟩
theorem SCut_c (s sep : Str) (hs : s.length < 4294967281) {w : World} (hm : Ml w) :
    Calls Tryz.prog 67 #[S s, S sep] w fun e w' => e = .returned (.tuple #[S (Lib.cut s sep).1, S (Lib.cut s sep).2.1, .bool (Lib.cut s sep).2.2]) ∧ Ext w w' := by
  obtain ⟨m, hm⟩ := hm
  refine (Tryz.strings_Cut ⟨s.toArray⟩ ⟨sep.toArray⟩ m w hs hm).mono ?_
  rintro e w' ⟨rfl, n, rfl⟩
  exact ⟨rfl, (Only.refl No w).drewN n⟩
theorem BCut_c (s : Str) (c : UInt8) (hs : s.length < 4294967281) {w : World} (hm : Ml w) :
    Calls Tryz.prog 67 #[S s, S [c]] w fun e w' => e = .returned (.tuple #[S (cutB c s).1, S (cutB c s).2.1, .bool (cutB c s).2.2]) ∧ Ext w w' := by
  have := SCut_c s [c] hs hm
  rwa [cut_byte] at this
theorem cutB_len (c : UInt8) : ∀ s : Str, (cutB c s).1.length + (cutB c s).2.1.length ≤ s.length
  | [] => by simp [cutB]
  | x :: s => by
    have := cutB_len c s
    unfold cutB
    split
    · simp
    · simp only [List.length_cons]; omega
def varB (s : Str) : Bool := (s.all fun c => decide (65 ≤ c.toNat) && decide (c.toNat ≤ 90)) && !(s == []) && decide (s.length ≤ 4)
abbrev dlr : Str := [36, 40]
def expL (l : List File) (rec : Str → Str × Int) : Nat → Str → Str → Str × Int
  | 0, _, _ => ([], 0)
  | f + 1, s, out =>
    if (Lib.cut s dlr).2.2 = false then (if 600 < (out ++ (Lib.cut s dlr).1).length then ([], 2) else (out ++ (Lib.cut s dlr).1, 0))
    else if (cutB 41 (Lib.cut s dlr).2.1).2.2 = false ∨ varB (cutB 41 (Lib.cut s dlr).2.1).1 = false then ([], 4)
    else match fndL (cutB 41 (Lib.cut s dlr).2.1).1 l with
      | none => ([], 5)
      | some v => if (rec v.2).2 ≠ 0 then ([], (rec v.2).2) else if 600 < (out ++ (Lib.cut s dlr).1 ++ (rec v.2).1).length then ([], 2) else expL l rec f (cutB 41 (Lib.cut s dlr).2.1).2.1 (out ++ (Lib.cut s dlr).1 ++ (rec v.2).1)
def exp (l : List File) : Nat → Str → Str × Int
  | 0, _ => ([], 9)
  | d + 1, s => expL l (exp l d) (s.length + 1) s []
theorem cut_len (s sep : Str) : (Lib.cut s sep).1.length + (Lib.cut s sep).2.1.length ≤ s.length := by
  unfold Lib.cut
  split
  · rename_i h
    simp only [List.length_take, List.length_drop]
    have : (Lib.index s sep).toNat ≤ s.length ∨ s.length < (Lib.index s sep).toNat := by omega
    rcases this with h1 | h1
    · omega
    · omega
  · simp
theorem cut_lt {s sep : Str} (hsep : sep ≠ []) (h : (Lib.cut s sep).2.2 = true) : (Lib.cut s sep).2.1.length < s.length := by
  have hp : 0 < sep.length := List.length_pos_iff.2 hsep
  unfold Lib.cut at h ⊢
  split
  · rename_i hi
    simp only [List.length_drop]
    have hs : 0 < s.length := by
      cases s with
      | nil =>
        exfalso
        unfold Lib.index at hi
        rw [if_neg (by simpa using hsep)] at hi
        omega
      | cons _ _ => simp
    omega
  · rename_i hi
    rw [if_neg hi] at h
    cases h
theorem expL_bound {l : List File} {rec : Str → Str × Int} : ∀ (f : Nat) (s out : Str), (expL l rec f s out).1.length ≤ 600
  | 0, _, _ => by simp [expL]
  | f + 1, s, out => by
    unfold expL
    split
    · split
      · simp
      · rename_i h; show (out ++ (Lib.cut s dlr).1).length ≤ 600; omega
    · split
      · simp
      · split
        · simp
        · split
          · simp
          · split
            · simp
            · exact expL_bound f _ _
theorem exp_bound (l : List File) : ∀ (d : Nat) (s : Str), (exp l d s).1.length ≤ 600
  | 0, _ => by simp [exp]
  | d + 1, s => expL_bound _ _ _
theorem expL_nonneg {l : List File} {rec : Str → Str × Int} (hr : ∀ s, 0 ≤ (rec s).2) : ∀ (f : Nat) (s out : Str), 0 ≤ (expL l rec f s out).2
  | 0, _, _ => by simp [expL]
  | f + 1, s, out => by
    unfold expL
    split
    · split <;> simp
    · split
      · simp
      · split
        · simp
        · split
          · exact hr _
          · split
            · simp
            · exact expL_nonneg hr f _ _
theorem exp_nonneg (l : List File) : ∀ (d : Nat) (s : Str), 0 ≤ (exp l d s).2
  | 0, _ => by simp [exp]
  | d + 1, s => expL_nonneg (exp_nonneg l d) _ _ _
def neB (w : Str) : Bool := !(w == [])
def fieldsF (s : Str) : List Str := (splB 32 s).filter neB
theorem splB_chunk (c : UInt8) : ∀ (a r : Str), c ∉ a → splB c (a ++ r) = headApp a (splB c r)
  | [], r, _ => by
    cases h : splB c r with
    | nil => exact absurd h (splB_ne c r)
    | cons x l => simp [headApp, h]
  | x :: a, r, h => by
    have hx : x ≠ c := fun e => h (by simp [e])
    rw [List.cons_append, splB_app, if_neg hx, splB_chunk c a r (fun hm => h (List.mem_cons_of_mem _ hm)), headApp_two]
    rfl
theorem dec_blank {n b0 b1 b2 b3 : Nat} : (Lib.decodeN n b0 b1 b2 b3).1 = 32 ↔ b0 = 32 := by
  unfold Lib.decodeN
  repeat' split
  all_goals (try dsimp only)
  all_goals omega
theorem dec_width {n b0 b1 b2 b3 : Nat} (hn : 1 ≤ n) : 1 ≤ (Lib.decodeN n b0 b1 b2 b3).2 ∧ (Lib.decodeN n b0 b1 b2 b3).2 ≤ n ∧ (2 ≤ (Lib.decodeN n b0 b1 b2 b3).2 → b1 ≠ 32) ∧ (3 ≤ (Lib.decodeN n b0 b1 b2 b3).2 → b2 ≠ 32) ∧ (4 ≤ (Lib.decodeN n b0 b1 b2 b3).2 → b3 ≠ 32) ∧ (Lib.decodeN n b0 b1 b2 b3).2 ≤ 4 ∧ (b0 = 32 → (Lib.decodeN n b0 b1 b2 b3).2 = 1) := by
  unfold Lib.decodeN
  repeat' split
  all_goals (try dsimp only)
  all_goals (refine ⟨?_, ?_, ?_, ?_, ?_, ?_, ?_⟩ <;> omega)
theorem get_at (l : Str) {i : Nat} (h : i < l.length) : (⟨l.toArray⟩ : ByteArray).get! i = l[i] := by
  show l.toArray[i]! = l[i]
  simp [h]
theorem blank_step (l : Str) {pos : Nat} (h : pos < l.length) : ∃ r w, Utf8.decode ⟨l.toArray⟩ pos = (r, w) ∧ 1 ≤ w ∧ pos + w ≤ l.length ∧
    ((r = 32 ∧ w = 1 ∧ l.drop pos = 32 :: l.drop (pos + 1)) ∨ (r ≠ 32 ∧ (32 : UInt8) ∉ (l.drop pos).take w ∧ l.drop pos = (l.drop pos).take w ++ l.drop (pos + w))) := by
  have hsz : (⟨l.toArray⟩ : ByteArray).size = l.length := by simp [ByteArray.size]
  have hd := Lib.decode_at ⟨l.toArray⟩ pos
  rw [hsz] at hd
  obtain ⟨w1, w2, w3, w4, w5, w6, w7⟩ := dec_width (n := l.length - pos) (b0 := ((⟨l.toArray⟩ : ByteArray).get! pos).toNat) (b1 := ((⟨l.toArray⟩ : ByteArray).get! (pos + 1)).toNat) (b2 := ((⟨l.toArray⟩ : ByteArray).get! (pos + 2)).toNat) (b3 := ((⟨l.toArray⟩ : ByteArray).get! (pos + 3)).toNat) (by omega)
  have hb := @dec_blank (l.length - pos) ((⟨l.toArray⟩ : ByteArray).get! pos).toNat ((⟨l.toArray⟩ : ByteArray).get! (pos + 1)).toNat ((⟨l.toArray⟩ : ByteArray).get! (pos + 2)).toNat ((⟨l.toArray⟩ : ByteArray).get! (pos + 3)).toNat
  rw [← hd] at w1 w2 w3 w4 w5 w6 w7 hb
  clear hd
  generalize Utf8.decode ⟨l.toArray⟩ pos = q at *
  obtain ⟨r, w⟩ := q
  dsimp only at *
  refine ⟨r, w, rfl, w1, by omega, ?_⟩
  have g0 := get_at l h
  by_cases hr : r = 32
  · left
    have h32 := hb.1 hr
    have hw := w7 h32
    have e : l[pos] = 32 := by
      rw [g0] at h32
      apply UInt8.toNat_inj.1
      exact h32
    exact ⟨hr, hw, by rw [List.drop_eq_getElem_cons h, e]⟩
  · right
    refine ⟨hr, fun hm => ?_, ?_⟩
    · obtain ⟨j, hj, hj2⟩ := List.getElem_of_mem hm
      rw [List.getElem_take, List.getElem_drop] at hj2
      rw [List.length_take, List.length_drop] at hj
      have hjl : pos + j < l.length := by omega
      have e32 : ((⟨l.toArray⟩ : ByteArray).get! (pos + j)).toNat = 32 := by rw [get_at l hjl, hj2]; rfl
      clear hj2 hjl
      match j, hj, e32 with
      | 0, _, e32 => exact hr (hb.2 e32)
      | 1, hj, e32 => exact w3 (by omega) e32
      | 2, hj, e32 => exact w4 (by omega) e32
      | 3, hj, e32 => exact w5 (by omega) e32
      | j + 4, hj, _ => omega
    · conv => lhs; rw [← List.take_append_drop w (l.drop pos)]
      rw [List.drop_drop]
def pieceOf (l : Str) (x : Nat × Nat) : Str := Lib.pieceU l x.1 x.2
theorem extract_piece (l : Str) (a b : Nat) : ((⟨l.toArray⟩ : ByteArray).extract a b) = ⟨(Lib.pieceU l a b).toArray⟩ := by
  rw [S_extract]
  congr 2
  unfold Lib.pieceU
  rw [List.drop_take]
theorem headApp_cons (p : Str) (L : List Str) : headApp p ([] :: L) = p :: L := by simp [headApp]
theorem sp_succ (p : Nat → Bool) (s : ByteArray) (f pos : Nat) (st : Option Nat) (acc : List (Nat × Nat)) : Lib.spansFromP p s (f + 1) pos st acc =
    if pos < s.size then
      (if p (Utf8.decode s pos).1 then
        (match st with
         | some a => Lib.spansFromP p s f (pos + (Utf8.decode s pos).2) none (acc ++ [(a, pos)])
         | none => Lib.spansFromP p s f (pos + (Utf8.decode s pos).2) none acc)
       else
        (match st with
         | some a => Lib.spansFromP p s f (pos + (Utf8.decode s pos).2) (some a) acc
         | none => Lib.spansFromP p s f (pos + (Utf8.decode s pos).2) (some pos) acc))
    else (acc, st) := rfl
theorem spans_fields (l : Str) : ∀ (f pos : Nat) (st : Option Nat) (acc : List (Nat × Nat)), l.length - pos ≤ f → pos ≤ l.length → (∀ a, st = some a → a < pos) →
    (Lib.closeSpans ⟨l.toArray⟩ (Lib.spansFromP (fun r => r == 32) ⟨l.toArray⟩ f pos st acc)).map (pieceOf l) = acc.map (pieceOf l) ++ (headApp (Lib.openPiece l st pos) (splB 32 (l.drop pos))).filter neB
  | f, pos, st, acc, hf, hp, ha => by
    have hsz : (⟨l.toArray⟩ : ByteArray).size = l.length := by simp [ByteArray.size]
    by_cases hlt : pos < l.length
    · obtain ⟨f, rfl⟩ : ∃ g, f = g + 1 := ⟨f - 1, by omega⟩
      obtain ⟨r, w, hd, hw, hwl, hc⟩ := blank_step l hlt
      rw [sp_succ, if_pos (by rw [hsz]; exact hlt), hd]
      dsimp only
      rcases hc with ⟨rfl, rfl, e⟩ | ⟨hr, hn, e⟩
      · rw [if_pos (show ((32 : Nat) == 32) = true from rfl), e, splB_app, if_pos rfl]
        cases st with
        | none =>
          dsimp only
          rw [spans_fields l f (pos + 1) none acc (by omega) (by omega) (fun a h => by cases h)]
          simp only [Lib.openPiece, headApp_nil (splB_ne 32 _)]
          rfl
        | some a =>
          dsimp only
          rw [spans_fields l f (pos + 1) none (acc ++ [(a, pos)]) (by omega) (by omega) (fun a h => by cases h)]
          have hne : neB (Lib.pieceU l a pos) = true := by
            have := Lib.pieceU_ne l a pos (ha a rfl) hp
            simpa [neB] using this
          simp only [Lib.openPiece, headApp_nil (splB_ne 32 _), headApp_cons, List.filter_cons, hne, if_true, List.map_append, List.map_cons, List.map_nil, List.append_assoc, List.singleton_append]
          rfl
      · rw [if_neg (by simpa using hr), e, splB_chunk 32 _ _ hn, headApp_two]
        cases st with
        | none =>
          dsimp only
          rw [spans_fields l f (pos + w) (some pos) acc (by omega) hwl (fun a h => by injection h; omega)]
          have e2 : Lib.openPiece l (some pos) (pos + w) = (l.drop pos).take w := by
            show Lib.pieceU l pos (pos + w) = _
            unfold Lib.pieceU
            rw [Nat.add_sub_cancel_left]
          rw [e2]
          simp only [Lib.openPiece, List.nil_append]
        | some a =>
          dsimp only
          rw [spans_fields l f (pos + w) (some a) acc (by omega) hwl (fun b h => by injection h with h; have := ha a rfl; omega)]
          have e2 : Lib.openPiece l (some a) (pos + w) = Lib.openPiece l (some a) pos ++ (l.drop pos).take w := (Lib.pieceU_grow l a pos w (by have := ha a rfl; omega)).symm
          rw [e2]
    · rw [Lib.spansFromP_end _ _ _ _ _ _ (by rw [hsz]; exact hlt)]
      have hd : l.drop pos = [] := List.drop_of_length_le (by omega)
      rw [hd]
      unfold Lib.closeSpans
      cases st with
      | none => simp [Lib.openPiece, splB, headApp, neB]
      | some a =>
        have hpl : pos = l.length := by omega
        have hne : neB (Lib.pieceU l a pos) = true := by
          have := Lib.pieceU_ne l a pos (ha a rfl) hp
          simpa [neB] using this
        simp only [Lib.openPiece, splB, headApp, List.append_nil, List.filter_cons, hne, if_true, List.filter_nil, List.map_append, List.map_cons, List.map_nil, hsz]
        rw [← hpl]
        rfl
termination_by f pos => (l.length - pos, f)
decreasing_by all_goals (simp_wf; omega)
theorem goFields_blank (l : Str) : Lib.goFieldsP (fun r => r == 32) ⟨l.toArray⟩ = (fieldsF l).map fun w => (⟨w.toArray⟩ : ByteArray) := by
  have hsz : (⟨l.toArray⟩ : ByteArray).size = l.length := by simp [ByteArray.size]
  unfold Lib.goFieldsP Lib.spansOfP
  have h := spans_fields l l.length 0 none [] (by omega) (Nat.zero_le _) (fun a h => by cases h)
  rw [List.map_nil, List.nil_append] at h
  simp only [Lib.openPiece, headApp_nil (splB_ne 32 _), List.drop_zero] at h
  have e : fieldsF l = (splB 32 l).filter neB := rfl
  rw [e, ← h, hsz, List.map_map]
  apply List.map_congr_left
  intro x _
  exact extract_piece l x.1 x.2
open Go.Lib in
theorem blank_pred (w : World) : PredAt Tryz.prog 130 #[] encR (fun r => r == 32) w := fun W r _ => by
  have e : ((r : Int) == 32) = (r == 32) := by
    rw [Bool.eq_iff_iff, beq_iff_eq, beq_iff_eq]
    omega
  unfold FnGives
  go_enter Tryz.func130, Tryz.ntmps130
  go_wp2
  go_ret
  exact ⟨by rw [← e]; rfl, 0, rfl⟩
theorem words_c (s : Str) (hs : s.length ≤ 100000) (w : World) :
    Calls Tryz.prog 100 #[S s] w fun e w' => ∃ A' c', e = .returned (.slice A' (fieldsF s).length c') ∧ Fresh strF 9 w w' A' c' (fieldsF s) := by
  have hsz : (⟨s.toArray⟩ : ByteArray).size = s.length := by simp [ByteArray.size]
  have HC := Lib.hid (Tryz.strings_FieldsFunc 130 #[] (enters_of Tryz.func130 (by kernel_rfl) rfl) _ ⟨s.toArray⟩ w (by rw [hsz]; omega) (blank_pred w))
  go_enter Tryz.func100, Tryz.ntmps100
  go_wp2_with fail
  refine HC.out.mono ?_
  rintro e u ⟨A, rfl, hA, ho, hb⟩
  clear HC
  rw [goFields_blank] at ho ⊢
  rw [List.length_map] at ho ⊢
  rw [List.map_map, show (Value.string ∘ fun w : Str => (⟨w.toArray⟩ : ByteArray)) = (fun w => Value.string ⟨w.toArray⟩) from rfl, map_S] at ho
  have HF : Hid (Fresh strF 9 w u (some ⟨A, 0, none⟩) (fieldsF s).length (fieldsF s)) := by
    refine ⟨?_, Only.below hb, fun g hg => by simp [Value.ownBlock] at hg; omega⟩
    rcases ho with ⟨h1, h2⟩
    refine ⟨h1, ?_⟩
    rcases h2 with h2 | ⟨g, cap, cur, e, _, h3⟩
    · exact .inl h2
    · exact .inr ⟨g, cap, cur, e, Nat.zero_le _, h3⟩
  clear ho hb
  go_wp2_with fail
  go_ret
  exact ⟨_, _, rfl, HF.out⟩
def patB (s : Str) : Bool := (cutB 37 s).2.2
theorem indexByte_cut (c : UInt8) : ∀ s : Str, decide (0 ≤ Lib.indexByte s c) = (cutB c s).2.2
  | [] => rfl
  | x :: s => by
    have ih := indexByte_cut c s
    have hg := Lib.indexByte_ge s c
    rw [cutB_cons, Lib.indexByte]
    by_cases h : x = c
    · simp [h]
    · rw [if_neg h, if_neg (by simpa using h), ← ih]
      by_cases h1 : Lib.indexByte s c = -1
      · simp [h1]
      · rw [if_neg (by simpa using h1)]
        have : 0 ≤ Lib.indexByte s c := by omega
        rw [decide_eq_true this, decide_eq_true (by omega)]
def onceF (s t : Str) : Str := if (cutB 37 s).2.2 = true then (cutB 37 s).1 ++ t ++ (cutB 37 s).2.1 else s
theorem onceF_len (s t : Str) : (onceF s t).length ≤ s.length + t.length := by
  have := cutB_len 37 s
  unfold onceF
  split
  · simp only [List.length_append]; omega
  · omega
theorem parts_take {s a b : Str} {c : UInt8} (h : s = a ++ c :: b) : s.take a.length = a ∧ s.drop (a.length + 1) = b := by
  subst h
  refine ⟨List.take_left, ?_⟩
  rw [← List.drop_drop, List.drop_left]
  rfl
theorem replace_once (s t : Str) (h : ([37] == t) = false) : Lib.replace s [37] t 1 = onceF s t := by
  have hi := index_cut 37 s
  unfold Lib.replace onceF
  rw [if_neg (by rw [h]; exact Bool.false_ne_true)]
  by_cases hb : (cutB 37 s).2.2 = true
  · rw [if_pos hb] at hi ⊢
    have hp := cut_parts 37 s hb
    have hc : Lib.count s [37] = 1 + Lib.count (s.drop ((cutB 37 s).1.length + 1)) [37] := Lib.count_hit (by simp) hi
    have hn : Lib.replaceNum s [37] 1 = 1 := by
      unfold Lib.replaceNum
      rw [if_neg (by omega)]
      rfl
    rw [hn, Lib.replaceK_hit _ _ 0 s _ hi, Lib.replaceK]
    obtain ⟨e1, e2⟩ := parts_take hp
    rw [List.length_singleton, e1, e2]
  · rw [if_neg hb] at hi ⊢
    have hn : Lib.replaceNum s [37] 1 = 0 := by
      unfold Lib.replaceNum
      rw [Lib.count_miss hi]
      rfl
    rw [hn, Lib.replaceK]
def wordB (s : Str) : Bool := nameB (onceF s [97])
theorem pattern_c (s : Str) (w : World) : Calls Tryz.prog 102 #[S s] w fun e w' => e = .returned (.bool (patB s)) ∧ Ext w w' := by
  have HC := Lib.hid (Tryz.strings_Contains_one ⟨s.toArray⟩ 37 w)
  go_enter Tryz.func102, Tryz.ntmps102
  go_wp2_with fail
  refine HC.out.mono ?_
  rintro e u ⟨rfl, rfl⟩
  clear HC
  go_wp2_with fail
  go_ret
  exact ⟨by rw [patB, ← indexByte_cut]; rfl, Only.refl _ _⟩
theorem word_c (s : Str) (hs : s.length ≤ 5000) {w : World} (hm : Ml w) : Calls Tryz.prog 103 #[S s] w fun e w' => e = .returned (.bool (wordB s)) ∧ Ext w w' := by
  obtain ⟨m, hm⟩ := hm
  have hsz : (⟨s.toArray⟩ : ByteArray).size = s.length := by simp [ByteArray.size]
  have hcnt : Lib.countB ⟨s.toArray⟩ ⟨#[37]⟩ ≤ s.length := by
    have h1 : Lib.countB ⟨s.toArray⟩ ⟨#[37]⟩ = Lib.count s [37] := rfl
    have h2 := (splitK_byte 37 _ s (Nat.le_refl _)).2
    have h3 := splB_le 37 s
    omega
  have HC : Hid (Calls Tryz.prog 117 #[S s, S [37], S [97], .int .i64 1] w fun e w' => e = .returned (S (onceF s [97])) ∧ Ext w w') := by
    refine (Tryz.strings_Replace ⟨s.toArray⟩ ⟨#[37]⟩ ⟨#[97]⟩ 1 m w (by rw [hsz]; omega) hm (by show 1 ≤ 1; omega) (by rw [hsz]; show s.length + _ * 1 ≤ _; omega)).mono ?_
    rintro e w' ⟨rfl, hb⟩
    refine ⟨?_, Only.below hb⟩
    have := replace_once s [97] rfl
    rw [← this]
  have hl := onceF_len s [97]
  rw [List.length_singleton] at hl
  have HN := Lib.hid (fun w => Name_c (onceF s [97]) w (by omega))
  unfold wordB
  generalize onceF s [97] = t at HC HN ⊢
  generalize nameB t = b at HN ⊢
  clear hm hcnt
  go_enter Tryz.func103, Tryz.ntmps103
  go_wp2_with fail
  refine (HC.out).mono ?_; rintro e uu ⟨rfl, hu⟩; obtain ⟨ξ1, hnew⟩ : ∃ ξ : X w No, ξ.v = uu := ⟨⟨uu, (X.here w No).h.then_ext hu⟩, rfl⟩; subst hnew; have Hξ1 := Lib.hid hu; clear hu
  go_wp2_with fail
  refine (HN.out _).mono ?_; rintro e uu ⟨rfl, hu⟩; obtain ⟨ξ2, hnew⟩ : ∃ ξ : X w No, ξ.v = uu := ⟨⟨uu, ξ1.h.then_ext hu⟩, rfl⟩; subst hnew; have Hξ2 := Lib.hid hu; clear hu
  go_wp2_with fail
  go_ret
  exact ⟨rfl, ξ2.h⟩
end Go.Proofs.YtnhaekifcieeoaaGreatDoor
