/- Put together: Rcd, Ba, Unp, Fnd, Cut, Exp, Fld, Mks, Aut, Stem, Grf, MkM, MkH, Deep. -/
import Derived.Test.YtnhaekifcieeoaaGreatDoorPk02
import Derived.Test.YtnhaekifcieeoaaGreatDoorPk07
import Derived.Test.YtnhaekifcieeoaaGreatDoorPk08
import Derived.Test.YtnhaekifcieeoaaGreatDoorPk04
import Derived.Lib.ItoaLen
import Derived.RangeFuncNested
import Derived.RangeFuncBound
import Derived.RangeFuncCalls
import Derived.RangeFuncLeaves
import Derived.RangeFuncBox
import Derived.Shelf.Abstract
import Derived.WalkKit
import Derived.OwnWalkIn
import Derived.TacticsInMore
import Derived.LoopNIn
import Derived.LoopIn
import Derived.Test.YtnhaekifcieeoaaGreatDoorProg
import Derived.Test.YtnhaekifcieeoaaGreatDoorPkS
import Derived.Test.YtnhaekifcieeoaaGreatDoorPk01
import Derived.Test.YtnhaekifcieeoaaGreatDoorPk05
import Derived.Test.YtnhaekifcieeoaaGreatDoorPk03
import Derived.Lib.FieldsP
import Derived.Lib.DecodeN
import Derived.Lib.Replace
import Derived.Shelf.GgClosure.Gives
namespace Go.Proofs.YtnhaekifcieeoaaGreatDoor
open Go Go.RowKit
def cmdT (c : Str) : Str := [32] ++ Lib.itoa c.length ++ [58] ++ c
def filT (f : File) : Str := [32] ++ f.1 ++ [32] ++ Lib.itoa f.2.length ++ [58] ++ f.2
def hdrT (r : Rcd) : Str := Lib.itoa r.cmds.length ++ [32] ++ Lib.itoa r.needs.length ++ [32] ++ Lib.itoa r.out.length
def recT (r : Rcd) : Str := hdrT r ++ r.cmds.flatMap cmdT ++ (r.needs ++ r.out).flatMap filT
theorem itoa_len (n : Nat) (h : n ≤ 1000000) : (Lib.itoa (n : Int)).length ≤ 21 := Lib.itoa_length_le _ (by omega) (by omega)
set_option maxRecDepth 100000 in
set_option maxHeartbeats 4000000 in
theorem RText_c {w : World} (hE : EnvT w) {v : RcdV} {r : Rcd} (h : RcdR w v r) (hl : r.Lim) :
    Calls Tryz.prog 75 #[rcdV v r] w fun e w' => e = .returned (S (recT r)) ∧ Ext w w' := by
  obtain ⟨cA, cc, nA, nc, oA, oc⟩ := v
  obtain ⟨w0, hw0⟩ : ∃ w0, w0 = w.alloc (.cells (rcdCs ⟨cA, cc, nA, nc, oA, oc⟩ r) rcT) := ⟨_, rfl⟩
  have hx0 : Ext w w0 := by rw [hw0]; exact (Only.refl No w).alloc _
  have hB : Cs w0 w.heap.size rcT (rcdCs ⟨cA, cc, nA, nc, oA, oc⟩ r) := by rw [hw0]; exact Cs.new _ _ _
  have d0 : ∀ ξ : X w0 No, ξ.v.cell? ⟨w.heap.size, 0, none⟩ = some (.slice cA r.cmds.length cc) := hB.x id 0
  have d1 : ∀ ξ : X w0 No, ξ.v.cell? ⟨w.heap.size, 1, none⟩ = some (.slice nA r.needs.length nc) := hB.x id 1
  have d2 : ∀ ξ : X w0 No, ξ.v.cell? ⟨w.heap.size, 2, none⟩ = some (.slice oA r.out.length oc) := hB.x id 2
  have HX0 := Lib.hid hx0
  have HR := Lib.hid (h.ext hx0)
  have hlc := hl.c
  have hln := hl.n
  have hlo := hl.o
  have HLc := Lib.hid hl.lc
  have HLn := Lib.hid hl.ln
  have HLo := Lib.hid hl.lo
  have HI : Hid (∀ (n : Nat) v, n ≤ 1000000 → Ext w0 v → Calls Tryz.prog 108 #[.int .i64 (n : Int)] v fun e w' => e = .returned (S (Lib.itoa (n : Int))) ∧ Ext v w') := fun n v hn hv => Itoa_t (n : Int) (by omega) (by omega) (hE.ext (hx0.then_ext hv))
  have hi1 := itoa_len r.cmds.length (by omega)
  have hi2 := itoa_len r.needs.length (by omega)
  have hi3 := itoa_len r.out.length (by omega)
  have HI1 := Lib.hid (fun v hv => HI.out r.cmds.length v (by omega) hv)
  have HI2 := Lib.hid (fun v hv => HI.out r.needs.length v (by omega) hv)
  have HI3 := Lib.hid (fun v hv => HI.out r.out.length v (by omega) hv)
  have HH : Hid (hdrT r = Lib.itoa r.cmds.length ++ [32] ++ Lib.itoa r.needs.length ++ [32] ++ Lib.itoa r.out.length) := rfl
  have hhl : (hdrT r).length ≤ 65 := by rw [HH.out]; simp only [List.length_append, List.length_cons, List.length_nil]; omega
  have HT : Hid (recT r = hdrT r ++ r.cmds.flatMap cmdT ++ (r.needs ++ r.out).flatMap filT) := rfl
  generalize hdrT r = hd at HH hhl HT
  generalize Lib.itoa (r.cmds.length : Int) = i1 at HI1 HH hi1
  generalize Lib.itoa (r.needs.length : Int) = i2 at HI2 HH hi2
  generalize Lib.itoa (r.out.length : Int) = i3 at HI3 HH hi3
  generalize recT r = R at HT ⊢
  clear hB hx0 h hl hE
  unfold rcdCs at hw0
  show Calls _ _ #[.agg #[.slice cA r.cmds.length cc, .slice nA r.needs.length nc, .slice oA r.out.length oc]] _ _
  go_enter Tryz.func75, Tryz.ntmps75
  go_upto_region 1 with fail
  rw [← hw0]
  clear hw0
  obtain ⟨ξ0, hξ0⟩ : ∃ ξ : X w0 No, ξ.v = w0 := ⟨X.here _ _, rfl⟩
  rw [← hξ0]
  clear hξ0
  go_upto_region 2 with fail
  refine Mix.wp_draw [4, 10, 17] 100 (Cl w0 No) (by kernel_rfl) (by kernel_rfl) (Cl.of ξ0.h.drew) ?_
  obtain ⟨μ0, hμ0⟩ : ∃ μ0 : X w0 No, μ0.v = ξ0.v.drew := ⟨⟨_, ξ0.h.drew⟩, rfl⟩
  rw [← hμ0]
  clear hμ0
  (repeat' (refine Mix.lex_quiet0 rfl rfl rfl ?_; intro K hK; go_big_quiet_op; go_big_quiet_on))
  ((first | refine Mix.lex_goes0 rfl rfl ?_ | refine Mix.lex_goesG rfl rfl rfl (by with_reducible rfl) rfl ?_); intro K hK; go_simp); refine (HI1.out _ μ0.h).mono ?_; rintro e uu ⟨rfl, hu⟩; obtain ⟨μ1, hnew⟩ : ∃ ξ : X w0 No, ξ.v = uu := ⟨⟨uu, μ0.h.then_ext hu⟩, rfl⟩; subst hnew; have Hμ1 := Lib.hid hu; refine ⟨_, rfl, hK _ _ (fun _ => ⟨μ1, rfl⟩) ?_⟩; clear hK K hu; simp only [Act.put, List.setIfInBounds_toArray, List.set_cons_succ, List.set_cons_zero]; (repeat' (first | (refine Mix.lex_quiet0 rfl rfl rfl ?_; intro K hK; go_big_quiet_op; go_big_quiet_on) | (refine Mix.lex_quietG rfl rfl rfl (by with_reducible rfl) rfl rfl ?_; intro K hK; go_big_quiet_op; go_big_quiet_on) | ((first | refine Mix.lex_skipT rfl rfl rfl (by with_reducible rfl) ?_ | refine Mix.lex_skipF rfl rfl rfl (by with_reducible rfl) ?_ | refine Mix.lex_skipU rfl rfl rfl (by with_reducible rfl) ?_); simp only [Act.put, List.setIfInBounds_toArray, List.set_cons_succ, List.set_cons_zero]) | (refine Mix.lex_part rfl rfl rfl rfl (fun hq => ?_) (fun hq => ?_) <;> (fail_if_success (guard_hyp hq :ₛ true = true)) <;> (fail_if_success (guard_hyp hq :ₛ false = false)) <;> first | (exfalso; cases hq; done) | (exfalso; simp only [decide_eq_true_eq, decide_eq_false_iff_not, beq_iff_eq, beq_eq_false_iff_ne, ne_eq, Int.not_lt, Int.not_le] at hq; omega) | simp only [Act.put, List.setIfInBounds_toArray, List.set_cons_succ, List.set_cons_zero])))
  ((first | refine Mix.lex_goes0 rfl rfl ?_ | refine Mix.lex_goesG rfl rfl rfl (by with_reducible rfl) rfl ?_); intro K hK; go_simp); refine (HI2.out _ μ1.h).mono ?_; rintro e uu ⟨rfl, hu⟩; obtain ⟨μ2, hnew⟩ : ∃ ξ : X w0 No, ξ.v = uu := ⟨⟨uu, μ1.h.then_ext hu⟩, rfl⟩; subst hnew; have Hμ2 := Lib.hid hu; refine ⟨_, rfl, hK _ _ (fun _ => ⟨μ2, rfl⟩) ?_⟩; clear hK K hu; simp only [Act.put, List.setIfInBounds_toArray, List.set_cons_succ, List.set_cons_zero]; (repeat' (first | (refine Mix.lex_quiet0 rfl rfl rfl ?_; intro K hK; go_big_quiet_op; go_big_quiet_on) | (refine Mix.lex_quietG rfl rfl rfl (by with_reducible rfl) rfl rfl ?_; intro K hK; go_big_quiet_op; go_big_quiet_on) | ((first | refine Mix.lex_skipT rfl rfl rfl (by with_reducible rfl) ?_ | refine Mix.lex_skipF rfl rfl rfl (by with_reducible rfl) ?_ | refine Mix.lex_skipU rfl rfl rfl (by with_reducible rfl) ?_); simp only [Act.put, List.setIfInBounds_toArray, List.set_cons_succ, List.set_cons_zero]) | (refine Mix.lex_part rfl rfl rfl rfl (fun hq => ?_) (fun hq => ?_) <;> (fail_if_success (guard_hyp hq :ₛ true = true)) <;> (fail_if_success (guard_hyp hq :ₛ false = false)) <;> first | (exfalso; cases hq; done) | (exfalso; simp only [decide_eq_true_eq, decide_eq_false_iff_not, beq_iff_eq, beq_eq_false_iff_ne, ne_eq, Int.not_lt, Int.not_le] at hq; omega) | simp only [Act.put, List.setIfInBounds_toArray, List.set_cons_succ, List.set_cons_zero])))
  ((first | refine Mix.lex_goes0 rfl rfl ?_ | refine Mix.lex_goesG rfl rfl rfl (by with_reducible rfl) rfl ?_); intro K hK; go_simp); refine (HI3.out _ μ2.h).mono ?_; rintro e uu ⟨rfl, hu⟩; obtain ⟨μ3, hnew⟩ : ∃ ξ : X w0 No, ξ.v = uu := ⟨⟨uu, μ2.h.then_ext hu⟩, rfl⟩; subst hnew; have Hμ3 := Lib.hid hu; refine ⟨_, rfl, hK _ _ (fun _ => ⟨μ3, rfl⟩) ?_⟩; clear hK K hu; simp only [Act.put, List.setIfInBounds_toArray, List.set_cons_succ, List.set_cons_zero]; (repeat' (first | (refine Mix.lex_quiet0 rfl rfl rfl ?_; intro K hK; go_big_quiet_op; go_big_quiet_on) | (refine Mix.lex_quietG rfl rfl rfl (by with_reducible rfl) rfl rfl ?_; intro K hK; go_big_quiet_op; go_big_quiet_on) | ((first | refine Mix.lex_skipT rfl rfl rfl (by with_reducible rfl) ?_ | refine Mix.lex_skipF rfl rfl rfl (by with_reducible rfl) ?_ | refine Mix.lex_skipU rfl rfl rfl (by with_reducible rfl) ?_); simp only [Act.put, List.setIfInBounds_toArray, List.set_cons_succ, List.set_cons_zero]) | (refine Mix.lex_part rfl rfl rfl rfl (fun hq => ?_) (fun hq => ?_) <;> (fail_if_success (guard_hyp hq :ₛ true = true)) <;> (fail_if_success (guard_hyp hq :ₛ false = false)) <;> first | (exfalso; cases hq; done) | (exfalso; simp only [decide_eq_true_eq, decide_eq_false_iff_not, beq_iff_eq, beq_eq_false_iff_ne, ne_eq, Int.not_lt, Int.not_le] at hq; omega) | simp only [Act.put, List.setIfInBounds_toArray, List.set_cons_succ, List.set_cons_zero])))
  refine Mix.lex_nil ?_
  have hd2 : hd = i1 ++ 32 :: (i2 ++ 32 :: i3) := by rw [HH.out]; simp
  have HHd := Lib.hid hd2
  have HIx : Hid (∀ (n : Nat), n ≤ 1000000 → (Lib.itoa (n : Int)).length ≤ 21) := itoa_len
  clear HI1 HI2 HI3 HH hd2
  go_wp2_with fail
  go_loopw [4, 31] (fun s i wr => ∃ j : Nat, j ≤ r.cmds.length ∧ i = .int .i64 j ∧ ∃ acc : Str, s = S acc ∧ acc = hd ++ (r.cmds.take j).flatMap cmdT ∧ acc.length ≤ 65 + 10100 * j ∧ ∃ ξ : X w0 No, wr = ξ.v) (fun _ i _ => r.cmds.length - (intOf i).toNat)
  case atStart => exact ⟨0, Nat.zero_le _, rfl, hd, by rw [HHd.out], by simp, by omega, μ3, rfl⟩
  case round =>
    obtain ⟨j, hj, rfl, acc, rfl, hA, hal, ξ, rfl⟩ := hrel
    have HA := Lib.hid hA
    clear hA
    by_cases hlt : j < r.cmds.length
    · obtain ⟨b, o, x, rfl, hx, c0⟩ := strs_get HR.out.c hlt
      have hxl := HLc.out x (List.mem_of_getElem? hx)
      have hil := HIx.out x.length (by omega)
      have HIc := Lib.hid (fun v hv => HI.out x.length v (by omega) hv)
      have HS : Hid ((r.cmds.take (j + 1)).flatMap cmdT = (r.cmds.take j).flatMap cmdT ++ ([32] ++ Lib.itoa x.length ++ [58] ++ x)) := by
        rw [Hid, List.take_add_one, hx, List.flatMap_append]; simp [cmdT]
      generalize Lib.itoa (x.length : Int) = il at hil HIc HS
      clear hx
      go_wp2_with fail
      refine (HIc.out _ ξ.h).mono ?_; rintro e uu ⟨rfl, hu⟩; obtain ⟨ξ1, hnew⟩ : ∃ ξ : X w0 No, ξ.v = uu := ⟨⟨uu, ξ.h.then_ext hu⟩, rfl⟩; subst hnew; have Hξ1 := Lib.hid hu; clear hu
      go_wp2_with fail
      go_roundw
      case rel => exact ⟨j + 1, by omega, by go_num, _, rfl, by rw [HS.out, HA.out]; simp, by simp only [List.length_append, List.length_cons]; omega, ξ1, rfl⟩
      case measure => simp [intOf]; omega
    · have HA2 : Hid (acc = hd ++ r.cmds.flatMap cmdT) := by
        have := HA.out
        rw [List.take_of_length_le (by omega)] at this
        exact this
      clear HA
      obtain ⟨u, hu⟩ : ∃ u, u = ξ.v.alloc (.cells #[.slice nA r.needs.length nc, .slice oA r.out.length oc] 22) := ⟨_, rfl⟩
      have hxu : Ext ξ.v u := by rw [hu]; exact (Only.refl No _).alloc _
      have hcu : Cs u ξ.v.heap.size 22 #[.slice nA r.needs.length nc, .slice oA r.out.length oc] := by rw [hu]; exact Cs.new _ _ _
      have HC := Lib.hid (Concat_c (c := nc) (d := oc) hcu (HR.out.n.ext (ξ.h.then_ext hxu)) (HR.out.o.ext (ξ.h.then_ext hxu)) (by omega) (by omega))
      have XU : Hid (Ext w0 u) := ξ.h.then_ext hxu
      have HLf : Hid (∀ x ∈ r.needs ++ r.out, x.1.length ≤ 10000 ∧ x.2.length ≤ 10000) := fun x hx => by
        rcases List.mem_append.1 hx with hx | hx
        · exact HLn.out x hx
        · exact HLo.out x hx
      have hyl : (r.needs ++ r.out).length ≤ 200 := by rw [List.length_append]; omega
      generalize r.needs ++ r.out = ys at HC HT HLf hyl
      have HAl : Hid (acc.length ≤ 1020000) := by unfold Hid; omega
      clear hxu hcu hal HLn HLo HHd
      go_wp2_with fail
      rw [← hu]
      clear hu
      refine HC.out.mono ?_
      rintro e u2 ⟨A', c', rfl, hf⟩
      have XU2 : Hid (Ext w0 u2) := XU.out.then_ext hf.ext
      have F := Lib.hid (hf.row (by decide))
      obtain ⟨ζ, hζ⟩ : ∃ ζ : X u2 No, ζ.v = u2 := ⟨X.here _ _, rfl⟩
      rw [← hζ]
      clear hf HC XU hζ
      go_wp2_with fail
      go_loopw [4, 53] (fun s i wr => ∃ j : Nat, j ≤ ys.length ∧ i = .int .i64 j ∧ ∃ ac2 : Str, s = S ac2 ∧ ac2 = acc ++ (ys.take j).flatMap filT ∧ ac2.length ≤ 1020000 + 20100 * j ∧ ∃ ξ : X u2 No, wr = ξ.v) (fun _ i _ => ys.length - (intOf i).toNat)
      case atStart => exact ⟨0, Nat.zero_le _, rfl, acc, rfl, by simp, by have := HAl.out; omega, ζ, rfl⟩
      case round =>
        obtain ⟨j, hj, rfl, ac2, rfl, hA, hal, ξ2, rfl⟩ := hrel
        have HA := Lib.hid hA
        clear hA
        by_cases hlt2 : j < ys.length
        · obtain ⟨b, o, x, rfl, hx, c0, c1⟩ := files_get F.out hlt2
          obtain ⟨hxl1, hxl2⟩ := HLf.out x (List.mem_of_getElem? hx)
          have hil := HIx.out x.2.length (by omega)
          have HIc := Lib.hid (fun v (hv : Ext u2 v) => HI.out x.2.length v (by omega) (XU2.out.then_ext hv))
          have HS : Hid ((ys.take (j + 1)).flatMap filT = (ys.take j).flatMap filT ++ ([32] ++ x.1 ++ [32] ++ Lib.itoa x.2.length ++ [58] ++ x.2)) := by
            rw [Hid, List.take_add_one, hx, List.flatMap_append]; simp [filT]
          generalize Lib.itoa (x.2.length : Int) = il at hil HIc HS
          obtain ⟨u3, hu3⟩ : ∃ u, u = ξ2.v.alloc (.cells #[S x.1, S x.2] 75) := ⟨_, rfl⟩
          have hcu : Cs u3 ξ2.v.heap.size 75 #[S x.1, S x.2] := by rw [hu3]; exact Cs.new _ _ _
          have XU3 : Hid (Ext u2 u3) := by rw [hu3]; exact ξ2.h.alloc _
          have e0 : ∀ ξ : X u3 No, ξ.v.cell? ⟨ξ2.v.heap.size, 0, none⟩ = some (S x.1) := hcu.x id 0
          have e1 : ∀ ξ : X u3 No, ξ.v.cell? ⟨ξ2.v.heap.size, 1, none⟩ = some (S x.2) := hcu.x id 1
          clear hx hcu
          go_upto_region 11 with fail
          rw [← hu3]
          clear hu3
          refine Mix.wp_draw [9] 100 (Cl u3 No) (by kernel_rfl) (by kernel_rfl) (Cl.of (Only.refl _ _).drew) ?_
          obtain ⟨ν0, hν0⟩ : ∃ ν0 : X u3 No, ν0.v = u3.drew := ⟨⟨_, (Only.refl _ _).drew⟩, rfl⟩
          rw [← hν0]
          clear hν0
          (repeat' (refine Mix.lex_quiet0 rfl rfl rfl ?_; intro K hK; go_big_quiet_op; go_big_quiet_on))
          ((first | refine Mix.lex_goes0 rfl rfl ?_ | refine Mix.lex_goesG rfl rfl rfl (by with_reducible rfl) rfl ?_); intro K hK; go_simp); refine (HIc.out _ (XU3.out.then_ext ν0.h)).mono ?_; rintro e uu ⟨rfl, hu⟩; obtain ⟨ν1, hnew⟩ : ∃ ξ : X u3 No, ξ.v = uu := ⟨⟨uu, ν0.h.then_ext hu⟩, rfl⟩; subst hnew; have Hν1 := Lib.hid hu; refine ⟨_, rfl, hK _ _ (fun _ => ⟨ν1, rfl⟩) ?_⟩; clear hK K hu; simp only [Act.put, List.setIfInBounds_toArray, List.set_cons_succ, List.set_cons_zero]; (repeat' (first | (refine Mix.lex_quiet0 rfl rfl rfl ?_; intro K hK; go_big_quiet_op; go_big_quiet_on) | (refine Mix.lex_quietG rfl rfl rfl (by with_reducible rfl) rfl rfl ?_; intro K hK; go_big_quiet_op; go_big_quiet_on) | ((first | refine Mix.lex_skipT rfl rfl rfl (by with_reducible rfl) ?_ | refine Mix.lex_skipF rfl rfl rfl (by with_reducible rfl) ?_ | refine Mix.lex_skipU rfl rfl rfl (by with_reducible rfl) ?_); simp only [Act.put, List.setIfInBounds_toArray, List.set_cons_succ, List.set_cons_zero]) | (refine Mix.lex_part rfl rfl rfl rfl (fun hq => ?_) (fun hq => ?_) <;> (fail_if_success (guard_hyp hq :ₛ true = true)) <;> (fail_if_success (guard_hyp hq :ₛ false = false)) <;> first | (exfalso; cases hq; done) | (exfalso; simp only [decide_eq_true_eq, decide_eq_false_iff_not, beq_iff_eq, beq_eq_false_iff_ne, ne_eq, Int.not_lt, Int.not_le] at hq; omega) | simp only [Act.put, List.setIfInBounds_toArray, List.set_cons_succ, List.set_cons_zero])))
          refine Mix.lex_nil ?_
          have XU4 : Hid (Ext u2 ν1.v) := XU3.out.then_ext ν1.h
          go_wp2_with fail
          go_roundw
          case rel => exact ⟨j + 1, by omega, by go_num, _, rfl, by rw [HS.out, HA.out]; simp, by simp only [List.length_append, List.length_cons]; omega, ⟨_, XU4.out⟩, rfl⟩
          case measure => simp [intOf]; omega
        · have HRes : Hid (R = ac2) := by
            have := HA.out
            rw [List.take_of_length_le (by omega)] at this
            rw [Hid, HT.out, this, HA2.out]
          clear HA
          go_wp2_with fail
          go_ret
          rw [HRes.out]
          exact ⟨rfl, HX0.out.then_ext (XU2.out.then_ext ξ2.h)⟩
def onlyL (ns : List Str) (xs : List File) : List File := xs.filter fun f => inS ns f.1
def Ov.cut (o : Ov) : Ov := { o with base := onlyL o.needs o.base }
def Ov.Tg (ts : List Str) (o : Ov) : Prop := o.targets = ts ∧ ∀ f ∈ o.own, inS ts f.1 = true
theorem Ov.Tg.wr {ts : List Str} {o : Ov} (h : o.Tg ts) (n s : Str) : (o.wr n s).Tg ts := by
  refine ⟨(Ov.wr_targets _ _ _).trans h.1, fun f hf => ?_⟩
  unfold Ov.wr at hf
  split at hf
  · rename_i he
    rcases mem_putL hf with rfl | hf
    · unfold Ov.wrF at he
      rw [h.1] at he
      show inS ts n = true
      cases hi : inS ts n with
      | true => rfl
      | false => rw [hi] at he; simp at he
    · exact h.2 f hf
  · exact h.2 f hf
theorem Ov.Tg.run {ts : List Str} {o : Ov} (h : o.Tg ts) (cmd : Str) : (o.run cmd).1.Tg ts := by
  unfold Ov.run Ov.two Ov.join
  repeat' split
  all_goals first
    | exact h.wr _ _
    | exact h
theorem Ov.Tg.runs {ts : List Str} : ∀ (cs : List Str) {o : Ov}, o.Tg ts → (o.runs cs).1.Tg ts
  | [], _, h => h
  | c :: cs, o, h => by
    rw [Ov.runs_cons]
    split
    · exact Ov.Tg.runs cs (h.run c)
    · exact h.run c
theorem allF_targets (xs : List File) (g : Grp) : ∀ f ∈ (allF xs g).1, inS g.targets f.1 = true := by
  intro f hf
  have h : ((ov0 xs g).runs g.cmds).1.Tg g.targets := Ov.Tg.runs g.cmds ⟨rfl, fun f hf => by cases hf⟩
  unfold allF at hf
  split at hf
  · split at hf
    · cases hf
    · exact h.2 f hf
  · cases hf
def putAll (own l : List File) : List File := own.foldl (fun l f => putL fk f l) l
def rcd0 : Rcd := ⟨[], [], []⟩
def oneF (l : List File) (g : Grp) : (List File × Rcd) × Int :=
  if (allF l g).2 ≠ 0 then (([], rcd0), (allF l g).2)
  else if 300 < (recT (recOf g l (allF l g).1)).length then (([], rcd0), 10)
  else (((allF l g).1, recOf g l (allF l g).1), 0)
def unitM (gs : List Grp) : List Nat → List File → List File → List (Str × Rcd) → (List File × List (Str × Rcd)) × Int
  | [], _, out, kept => ((out, kept), 0)
  | k :: ks, l, out, kept => match gs[k]? with
    | none => unitM gs ks l out kept
    | some g => if g.phony = true then unitM gs ks l out kept
      else if (oneF l g).2 ≠ 0 then (([], []), (oneF l g).2)
      else unitM gs ks (putAll (oneF l g).1.1 l) (putAll (oneF l g).1.1 out) (kept ++ [(g.targets.headD [], (oneF l g).1.2)])
def nameU (gs : List Grp) (k : Nat) : Option Str := match gs[k]? with
  | some g => if g.phony = true then none else some (g.targets.headD [])
  | none => none
def namesF (gs : List Grp) (u : List Nat) : List Str := u.filterMap (nameU gs)
theorem putAll_len : ∀ (own l : List File), (putAll own l).length ≤ l.length + own.length
  | [], l => Nat.le_refl _
  | f :: own, l => by
    have h1 := putAll_len own (putL fk f l)
    have h2 := length_putL (key := fk) f l
    show (putAll own (putL fk f l)).length ≤ _
    rw [List.length_cons]
    omega
theorem putAll_rise : ∀ (own : List File) {l : List File}, Rise fk l → Rise fk (putAll own l)
  | [], _, h => h
  | f :: own, _, h => putAll_rise own (rise_putL h f)
theorem putAll_mem : ∀ (own : List File) {l : List File} {x : File}, x ∈ putAll own l → x ∈ own ∨ x ∈ l
  | [], _, _, h => .inr h
  | f :: own, l, x, h => by
    rcases putAll_mem own h with h | h
    · exact .inl (List.mem_cons_of_mem _ h)
    · rcases mem_putL h with rfl | h
      · exact .inl List.mem_cons_self
      · exact .inr h
theorem Ov.Fit.runs {xs : List File} {ns ts : List Str} : ∀ (cs : List Str) {k : Nat} {o : Ov}, o.Fit xs ns ts k → (o.runs cs).1.Fit xs ns ts (k + cs.length)
  | [], _, _, h => h
  | c :: cs, k, o, h => by
    rw [Ov.runs_cons, List.length_cons]
    have h1 := h.run c
    split
    · have h2 := Ov.Fit.runs cs h1
      rw [show k + (cs.length + 1) = k + 1 + cs.length by omega]
      exact h2
    · exact ⟨h1.eb, h1.en, h1.et, h1.rise, (show (o.run c).1.own.length ≤ _ by have := h1.len; omega), h1.tx⟩
theorem allF_fit (xs : List File) (g : Grp) : Rise fk (allF xs g).1 ∧ (allF xs g).1.length ≤ g.cmds.length ∧ ∀ f ∈ (allF xs g).1, f.2.length ≤ 1000 := by
  have h := Ov.Fit.runs g.cmds (ov0_fit xs g)
  rw [Nat.zero_add] at h
  unfold allF
  split
  · split
    · exact ⟨List.Pairwise.nil, Nat.zero_le _, fun f hf => by cases hf⟩
    · exact ⟨h.rise, h.len, h.tx⟩
  · exact ⟨List.Pairwise.nil, Nat.zero_le _, fun f hf => by cases hf⟩
theorem results_tct {fn : Func} {t p u : Tmp} {ty : TypeId} (h : fn.results = #[.tmp t, .cell p ty, .tmp u]) (tmps : Array Value) (P : Program) (w : World) :
    (results fn tmps).run P w = ((asAddr (tmps.getD p undef)).run P w).andThen fun a w₁ => ((loadVar ty a).run P w₁).andThen fun v w₂ => .ok (.tuple #[tmps.getD t undef, v, tmps.getD u undef]) w₂ := by
  simp only [results, h]
  simp [Sem.run_bind, Result.andThen]
theorem bodyPost_tct {P : Program} {fn : Func} {R : Ending → World → Prop} {a : Act} {w : World} {t p u : Tmp} {ty : TypeId} {ad : Addr} {v : Value} (h : fn.results = #[.tmp t, .cell p ty, .tmp u])
    (hp : a.tmps.getD p undef = .pointer (some ad)) (hd : a.defers = []) (hl : (loadVar ty ad).run P w = .ok v w) (hR : R (.returned (.tuple #[a.tmps.getD t undef, v, a.tmps.getD u undef])) w) : bodyPost P fn R .ret a w := by
  refine bodyPost_ret (v := .tuple #[a.tmps.getD t undef, v, a.tmps.getD u undef]) ?_ hd hR
  rw [results_tct h, hp]
  simp [asAddr, Sem.run_pure, Result.andThen, hl]
theorem recOf_lim {l own : List File} {g : Grp} (hl : ∀ f ∈ l, f.1.length ≤ 10000 ∧ f.2.length ≤ 1000) (ho : ∀ f ∈ own, f.1.length ≤ 10000 ∧ f.2.length ≤ 1000) (h1 : g.cmds.length ≤ 100) (h2 : g.needs.length ≤ 100) (h3 : own.length ≤ 100) (h4 : ∀ c ∈ g.cmds, c.length ≤ 10000) (h5 : ∀ n ∈ g.needs, n.length ≤ 10000) : (recOf g l own).Lim := by
  refine ⟨h1, Nat.le_trans (nedF_len l g.needs) h2, h3, h4, ?_, fun x hx => ⟨(ho x hx).1, by have := (ho x hx).2; omega⟩⟩
  intro x hx
  have hx : x ∈ nedF l g.needs := hx
  obtain ⟨n, hn, hx⟩ := List.mem_flatMap.1 hx
  split at hx
  · obtain rfl := List.mem_singleton.1 hx
    exact ⟨h5 n hn, Nat.le_trans (getT_len fun f hf => (hl f hf).2) (by omega)⟩
  · cases hx
theorem allF_names {xs : List File} {g : Grp} (h : ∀ t ∈ g.targets, t.length ≤ 10000) : ∀ f ∈ (allF xs g).1, f.1.length ≤ 10000 ∧ f.2.length ≤ 1000 := fun f hf =>
  ⟨h f.1 (by have := allF_targets xs g f hf; simpa [inS] using this), (allF_fit xs g).2.2 f hf⟩
open Go Go.RowKit Go.Shelf
attribute [local go_sem] Oper.semAt_some
def fndL (k : Str) (xs : List File) : Option File := xs.reverse.find? fun y => decide (y.1 = k)
theorem cutB_len (c : UInt8) : ∀ s : Str, (cutB c s).1.length + (cutB c s).2.1.length ≤ s.length
  | [] => by simp [cutB]
  | x :: s => by
    have := cutB_len c s
    unfold cutB
    split
    · simp
    · simp only [List.length_cons]; omega
def varB (s : Str) : Bool := (s.all fun c => decide (65 ≤ c.toNat) && decide (c.toNat ≤ 90)) && !(s == []) && decide (s.length ≤ 4)
abbrev dlr : Str := [36, 40]
def expL (l : List File) (rec : Str → Str × Int) : Nat → Str → Str → Str × Int
  | 0, _, _ => ([], 0)
  | f + 1, s, out =>
    if (Lib.cut s dlr).2.2 = false then (if 600 < (out ++ (Lib.cut s dlr).1).length then ([], 2) else (out ++ (Lib.cut s dlr).1, 0))
    else if (cutB 41 (Lib.cut s dlr).2.1).2.2 = false ∨ varB (cutB 41 (Lib.cut s dlr).2.1).1 = false then ([], 4)
    else match fndL (cutB 41 (Lib.cut s dlr).2.1).1 l with
      | none => ([], 5)
      | some v => if (rec v.2).2 ≠ 0 then ([], (rec v.2).2) else if 600 < (out ++ (Lib.cut s dlr).1 ++ (rec v.2).1).length then ([], 2) else expL l rec f (cutB 41 (Lib.cut s dlr).2.1).2.1 (out ++ (Lib.cut s dlr).1 ++ (rec v.2).1)
def exp (l : List File) : Nat → Str → Str × Int
  | 0, _ => ([], 9)
  | d + 1, s => expL l (exp l d) (s.length + 1) s []
theorem cut_len (s sep : Str) : (Lib.cut s sep).1.length + (Lib.cut s sep).2.1.length ≤ s.length := by
  unfold Lib.cut
  split
  · rename_i h
    simp only [List.length_take, List.length_drop]
    have : (Lib.index s sep).toNat ≤ s.length ∨ s.length < (Lib.index s sep).toNat := by omega
    rcases this with h1 | h1
    · omega
    · omega
  · simp
theorem expL_bound {l : List File} {rec : Str → Str × Int} : ∀ (f : Nat) (s out : Str), (expL l rec f s out).1.length ≤ 600
  | 0, _, _ => by simp [expL]
  | f + 1, s, out => by
    unfold expL
    split
    · split
      · simp
      · rename_i h; show (out ++ (Lib.cut s dlr).1).length ≤ 600; omega
    · split
      · simp
      · split
        · simp
        · split
          · simp
          · split
            · simp
            · exact expL_bound f _ _
theorem exp_bound (l : List File) : ∀ (d : Nat) (s : Str), (exp l d s).1.length ≤ 600
  | 0, _ => by simp [exp]
  | d + 1, s => expL_bound _ _ _
theorem expL_nonneg {l : List File} {rec : Str → Str × Int} (hr : ∀ s, 0 ≤ (rec s).2) : ∀ (f : Nat) (s out : Str), 0 ≤ (expL l rec f s out).2
  | 0, _, _ => by simp [expL]
  | f + 1, s, out => by
    unfold expL
    split
    · split <;> simp
    · split
      · simp
      · split
        · simp
        · split
          · exact hr _
          · split
            · simp
            · exact expL_nonneg hr f _ _
theorem exp_nonneg (l : List File) : ∀ (d : Nat) (s : Str), 0 ≤ (exp l d s).2
  | 0, _ => by simp [exp]
  | d + 1, s => expL_nonneg (exp_nonneg l d) _ _ _
def neB (w : Str) : Bool := !(w == [])
def fieldsF (s : Str) : List Str := (splB 32 s).filter neB
theorem splB_chunk (c : UInt8) : ∀ (a r : Str), c ∉ a → splB c (a ++ r) = headApp a (splB c r)
  | [], r, _ => by
    cases h : splB c r with
    | nil => exact absurd h (splB_ne c r)
    | cons x l => simp [headApp, h]
  | x :: a, r, h => by
    have hx : x ≠ c := fun e => h (by simp [e])
    rw [List.cons_append, splB_app, if_neg hx, splB_chunk c a r (fun hm => h (List.mem_cons_of_mem _ hm)), headApp_two]
    rfl
def patB (s : Str) : Bool := (cutB 37 s).2.2
def onceF (s t : Str) : Str := if (cutB 37 s).2.2 = true then (cutB 37 s).1 ++ t ++ (cutB 37 s).2.1 else s
theorem onceF_len (s t : Str) : (onceF s t).length ≤ s.length + t.length := by
  have := cutB_len 37 s
  unfold onceF
  split
  · simp only [List.length_append]; omega
  · omega
def wordB (s : Str) : Bool := nameB (onceF s [97])
structure Rul where
  targets : List Str
  needs : List Str
  cmds : List Str
  deriving DecidableEq
structure Mk where
  vars : List File
  rules : List Rul
  phony : List Str
  deriving DecidableEq
def mk0 : Mk := ⟨[], [], []⟩
def okFrom (p : Bool) : List Str → List Str → Bool
  | _, [] => true
  | seen, w :: r => wordB w && !inS seen w && (p || !patB w) && okFrom p (seen ++ [w]) r
def allOk (t n : List Str) : Bool := okFrom (t.any patB) [] (t ++ n) && !(t.any patB && decide (1 < t.length))
def headF (m : Mk) (s : Str) : Mk × Int :=
  if (exp m.vars 6 s).2 ≠ 0 then (m, (exp m.vars 6 s).2)
  else if (cutB 58 (exp m.vars 6 s).1).2.2 = false ∨ fieldsF (cutB 58 (exp m.vars 6 s).1).1 = [] then (m, 4)
  else if 2 < (fieldsF (cutB 58 (exp m.vars 6 s).1).1).length ∨ 3 < (fieldsF (cutB 58 (exp m.vars 6 s).1).2.1).length ∨ m.rules.length = 10 then (m, 2)
  else if allOk (fieldsF (cutB 58 (exp m.vars 6 s).1).1) (fieldsF (cutB 58 (exp m.vars 6 s).1).2.1) = true then (⟨m.vars, m.rules ++ [⟨fieldsF (cutB 58 (exp m.vars 6 s).1).1, fieldsF (cutB 58 (exp m.vars 6 s).1).2.1, []⟩], m.phony⟩, 0)
  else (m, 3)
def cmdF (m : Mk) (s : Str) : Mk × Int :=
  match m.rules.getLast? with
  | none => (m, 4)
  | some r =>
    if (exp m.vars 6 s).2 ≠ 0 then (m, (exp m.vars 6 s).2)
    else if r.cmds.length = 3 ∨ 28 < (exp m.vars 6 s).1.length then (m, 2)
    else (⟨m.vars, m.rules.dropLast ++ [⟨r.targets, r.needs, r.cmds ++ [(exp m.vars 6 s).1]⟩], m.phony⟩, 0)
abbrev phonyT : Str := [112, 104, 111, 110, 121, 32]
abbrev eqT : Str := [32, 61, 32]
def phoF (m : Mk) (n : Str) : Mk × Int := if nameB n = false ∨ inS m.phony n = true then (m, 3) else (⟨m.vars, m.rules, m.phony ++ [n]⟩, 0)
def varF (m : Mk) (a b : Str) : Mk × Int := if varB a = false then (m, 3) else if m.vars.length = 6 then (m, 2) else (⟨m.vars ++ [(a, b)], m.rules, m.phony⟩, 0)
def lineF (m : Mk) : Str → Mk × Int
  | [] => (m, 0)
  | x :: r =>
    if x = 35 then (m, 0)
    else if x = 9 then cmdF m r
    else if Lib.hasPrefix (x :: r) phonyT = true then phoF m ((x :: r).drop 6)
    else if (Lib.cut (x :: r) eqT).2.2 = true then varF m (Lib.cut (x :: r) eqT).1 (Lib.cut (x :: r) eqT).2.1
    else headF m (x :: r)
theorem lineF_cons (m : Mk) (x : UInt8) (r : Str) : lineF m (x :: r) =
    if x = 35 then (m, 0)
    else if x = 9 then cmdF m r
    else if Lib.hasPrefix (x :: r) phonyT = true then phoF m ((x :: r).drop 6)
    else if (Lib.cut (x :: r) eqT).2.2 = true then varF m (Lib.cut (x :: r) eqT).1 (Lib.cut (x :: r) eqT).2.1
    else headF m (x :: r) := rfl
def foldF : List Str → Mk → Mk × Int
  | [], m => (m, 0)
  | l :: ls, m => if (lineF m l).2 = 0 then foldF ls (lineF m l).1 else (mk0, (lineF m l).2)
def dupF : List Str → List Str → Bool
  | _, [] => false
  | made, t :: ts => inS made t || dupF (made ++ [t]) ts
def ruleOk (ph : List Str) (r : Rul) : Bool := (inS ph (r.targets.headD []) == decide (r.cmds.length = 0)) && !(decide (1 < r.targets.length) && inS ph (r.targets.getD 1 []))
def chkR (ph : List Str) : List Rul → List Str → Option (List Str)
  | [], made => some made
  | r :: rs, made => if dupF made r.targets = true then none else if ruleOk ph r = true then chkR ph rs (made ++ r.targets) else none
def chkF (m : Mk) : Int :=
  match chkR m.phony m.rules [] with
  | none => 3
  | some made => if m.phony.all (inS made) = true then 0 else 3
def parseF (s : Str) : Mk × Int :=
  if 600 < s.length then (mk0, 2)
  else if (foldF (splB 10 s) mk0).2 ≠ 0 then (mk0, (foldF (splB 10 s) mk0).2)
  else if chkF (foldF (splB 10 s) mk0).1 = 0 then ((foldF (splB 10 s) mk0).1, 0)
  else (mk0, chkF (foldF (splB 10 s) mk0).1)
structure Mk.Fit (m : Mk) (k : Nat) : Prop where
  v : m.vars.length ≤ 6
  vt : ∀ x ∈ m.vars, x.1.length ≤ 600 ∧ x.2.length ≤ 600
  r : m.rules.length ≤ 10
  rt : ∀ x ∈ m.rules, 1 ≤ x.targets.length ∧ x.targets.length ≤ 2 ∧ x.needs.length ≤ 3 ∧ x.cmds.length ≤ 3
  p : m.phony.length ≤ k
theorem mk0_fit : mk0.Fit 0 := ⟨Nat.zero_le _, (fun x hx => by cases hx), Nat.zero_le _, (fun x hx => by cases hx), Nat.le_refl _⟩
theorem Mk.Fit.more {m : Mk} {k : Nat} (h : m.Fit k) : m.Fit (k + 1) := ⟨h.v, h.vt, h.r, h.rt, Nat.le_succ_of_le h.p⟩
theorem headF_fit {m : Mk} {k : Nat} (h : m.Fit k) (s : Str) : (headF m s).1.Fit (k + 1) := by
  unfold headF
  split
  · exact h.more
  · split
    · exact h.more
    · rename_i h2
      split
      · exact h.more
      · rename_i h3
        split
        · refine ⟨h.v, h.vt, ?_, ?_, Nat.le_succ_of_le h.p⟩
          · have := h.r
            show (m.rules ++ [_]).length ≤ 10
            rw [List.length_append, List.length_singleton]
            omega
          · intro x hx
            rcases List.mem_append.1 hx with hx | hx
            · exact h.rt x hx
            · obtain rfl := List.mem_singleton.1 hx
              refine ⟨?_, by show (fieldsF _).length ≤ 2; omega, by show (fieldsF _).length ≤ 3; omega, Nat.zero_le _⟩
              show 1 ≤ (fieldsF (cutB 58 (exp m.vars 6 s).1).1).length
              cases hf : fieldsF (cutB 58 (exp m.vars 6 s).1).1 with
              | nil => exact absurd (.inr hf) h2
              | cons a l => simp
        · exact h.more
theorem cmdF_fit {m : Mk} {k : Nat} (h : m.Fit k) (s : Str) : (cmdF m s).1.Fit (k + 1) := by
  unfold cmdF
  split
  · exact h.more
  · rename_i r hr
    split
    · exact h.more
    · split
      · exact h.more
      · rename_i h3
        have hm := List.mem_of_getLast? hr
        obtain ⟨q1, q2, q3, q4⟩ := h.rt r hm
        refine ⟨h.v, h.vt, ?_, ?_, Nat.le_succ_of_le h.p⟩
        · have := h.r
          have hpos : 0 < m.rules.length := List.length_pos_of_mem hm
          show (m.rules.dropLast ++ [_]).length ≤ 10
          rw [List.length_append, List.length_singleton, List.length_dropLast]
          omega
        · intro x hx
          rcases List.mem_append.1 hx with hx | hx
          · exact h.rt x (List.dropLast_subset _ hx)
          · obtain rfl := List.mem_singleton.1 hx
            refine ⟨q1, q2, q3, ?_⟩
            show (r.cmds ++ [_]).length ≤ 3
            rw [List.length_append, List.length_singleton]
            omega
theorem lineF_fit {m : Mk} {k : Nat} (h : m.Fit k) {s : Str} (hs : s.length ≤ 600) : (lineF m s).1.Fit (k + 1) := by
  cases s with
  | nil => exact h.more
  | cons x r =>
    rw [lineF_cons]
    split
    · exact h.more
    · split
      · exact cmdF_fit h r
      · split
        · unfold phoF
          split
          · exact h.more
          · refine ⟨h.v, h.vt, h.r, h.rt, ?_⟩
            have := h.p
            show (m.phony ++ [_]).length ≤ k + 1
            rw [List.length_append, List.length_singleton]
            omega
        · split
          · unfold varF
            split
            · exact h.more
            · split
              · exact h.more
              · rename_i h6
                have hc := cut_len (x :: r) eqT
                refine ⟨?_, ?_, h.r, h.rt, Nat.le_succ_of_le h.p⟩
                · have := h.v
                  show (m.vars ++ [_]).length ≤ 6
                  rw [List.length_append, List.length_singleton]
                  omega
                · intro y hy
                  rcases List.mem_append.1 hy with hy | hy
                  · exact h.vt y hy
                  · obtain rfl := List.mem_singleton.1 hy
                    exact ⟨by show (Lib.cut (x :: r) eqT).1.length ≤ 600; omega, by show (Lib.cut (x :: r) eqT).2.1.length ≤ 600; omega⟩
          · exact headF_fit h _
theorem headF_nonneg (m : Mk) (s : Str) : 0 ≤ (headF m s).2 := by
  have := exp_nonneg m.vars 6 s
  unfold headF
  repeat' split
  all_goals first | exact this | simp
theorem cmdF_nonneg (m : Mk) (s : Str) : 0 ≤ (cmdF m s).2 := by
  have := exp_nonneg m.vars 6 s
  unfold cmdF
  repeat' split
  all_goals first | exact this | simp
theorem lineF_nonneg (m : Mk) (s : Str) : 0 ≤ (lineF m s).2 := by
  cases s with
  | nil => exact Int.le_refl _
  | cons x r =>
    rw [lineF_cons]
    split
    · simp
    · split
      · exact cmdF_nonneg m r
      · split
        · unfold phoF; split <;> simp
        · split
          · unfold varF; repeat' split
            all_goals simp
          · exact headF_nonneg m _
theorem foldF_nonneg : ∀ (ls : List Str) (m : Mk), 0 ≤ (foldF ls m).2
  | [], m => Int.le_refl _
  | l :: ls, m => by
    unfold foldF
    split
    · exact foldF_nonneg ls _
    · exact lineF_nonneg m l
theorem chkF_cases (m : Mk) : chkF m = 0 ∨ chkF m = 3 := by
  unfold chkF
  split
  · exact .inr rfl
  · split
    · exact .inl rfl
    · exact .inr rfl
theorem parseF_nonneg (s : Str) : 0 ≤ (parseF s).2 := by
  have h1 := foldF_nonneg (splB 10 s) mk0
  have h2 := chkF_cases (foldF (splB 10 s) mk0).1
  unfold parseF
  split
  · simp
  · split
    · exact h1
    · split
      · simp
      · show 0 ≤ chkF _; omega
theorem foldF_fit : ∀ (ls : List Str) (m : Mk) (k : Nat), m.Fit k → (∀ l ∈ ls, l.length ≤ 600) → (foldF ls m).1.Fit (k + ls.length)
  | [], m, k, h, _ => h
  | l :: ls, m, k, h, hl => by
    unfold foldF
    split
    · have := foldF_fit ls _ (k + 1) (lineF_fit h (hl l (by simp))) (fun x hx => hl x (List.mem_cons_of_mem _ hx))
      rw [List.length_cons, show k + (ls.length + 1) = k + 1 + ls.length by omega]
      exact this
    · exact ⟨mk0_fit.v, mk0_fit.vt, mk0_fit.r, mk0_fit.rt, Nat.zero_le _⟩
abbrev KeyV := UInt8 → Option Str
def keyV (t f n k : Str) : KeyV := fun c => if c = 64 then some t else if c = 60 then some f else if c = 94 then some n else if c = 42 then some k else none
def autoF (v : KeyV) : Str → Str
  | [] => []
  | [x] => [x]
  | x :: y :: r => if x = 36 then (match v y with | some t => t ++ autoF v r | none => x :: autoF v (y :: r)) else x :: autoF v (y :: r)
def lookF (v : KeyV) : Str → Option Str
  | x :: y :: _ => if x = 36 then v y else none
  | _ => none
def joinSp : List Str → Str
  | [] => []
  | [x] => x
  | x :: y :: r => x ++ 32 :: joinSp (y :: r)
theorem autoF_look (v : KeyV) (x : UInt8) (r : Str) : autoF v (x :: r) = match lookF v (x :: r) with | some t => t ++ autoF v (r.drop 1) | none => x :: autoF v r := by
  cases r with
  | nil => rfl
  | cons y r =>
    by_cases hx : x = 36
    · cases h : v y <;> simp [autoF, lookF, hx, h]
    · simp [autoF, lookF, hx]
theorem autoF_drop_hit {v : KeyV} {s t : Str} {i : Nat} (h : lookF v (s.drop i) = some t) : autoF v (s.drop i) = t ++ autoF v (s.drop (i + 2)) ∧ i + 2 ≤ s.length := by
  cases hs : s.drop i with
  | nil => rw [hs] at h; cases h
  | cons x r =>
    rw [hs] at h
    have hl : r ≠ [] := by
      rintro rfl
      cases h
    have h2 : s.drop (i + 2) = r.drop 1 := by
      rw [Nat.add_comm i 2, ← List.drop_drop, List.drop_drop, Nat.add_comm 2 i, ← List.drop_drop, hs]
      rfl
    rw [autoF_look, h, h2]
    refine ⟨rfl, ?_⟩
    have := congrArg List.length hs
    have hr := List.length_pos_iff.2 hl
    simp only [List.length_drop, List.length_cons] at this
    omega
theorem autoF_drop_miss {v : KeyV} {s : Str} {i : Nat} (h : lookF v (s.drop i) = none) (hi : i < s.length) : autoF v (s.drop i) = s[i] :: autoF v (s.drop (i + 1)) := by
  rw [List.drop_eq_getElem_cons hi] at h ⊢
  rw [autoF_look, h]
theorem autoF_len {v : KeyV} {K : Nat} (hv : ∀ c t, v c = some t → t.length ≤ K) : ∀ s : Str, (autoF v s).length ≤ s.length * (K + 1)
  | [] => by simp [autoF]
  | [x] => by simp [autoF]
  | x :: y :: r => by
    have h1 := autoF_len hv (y :: r)
    have h2 := autoF_len hv r
    rw [autoF_look]
    have e1 : (x :: y :: r).length * (K + 1) = r.length * (K + 1) + (K + 1) + (K + 1) := by simp only [List.length_cons, Nat.succ_mul]
    have e2 : (y :: r).length * (K + 1) = r.length * (K + 1) + (K + 1) := by simp only [List.length_cons, Nat.succ_mul]
    rw [e2] at h1
    rw [e1]
    cases h : lookF v (x :: y :: r) with
    | none => simp only [List.length_cons]; omega
    | some t =>
      have : t.length ≤ K := by
        by_cases hx : x = 36
        · simp only [lookF, hx, if_true] at h
          exact hv _ _ h
        · simp [lookF, hx] at h
      simp only [List.length_append, List.drop_succ_cons, List.drop_zero]
      omega
theorem keyV_len {t f n k : Str} {K : Nat} (h1 : t.length ≤ K) (h2 : f.length ≤ K) (h3 : n.length ≤ K) (h4 : k.length ≤ K) : ∀ c u, keyV t f n k c = some u → u.length ≤ K := by
  intro c u h
  unfold keyV at h
  split at h
  · cases h; exact h1
  · split at h
    · cases h; exact h2
    · split at h
      · cases h; exact h3
      · split at h
        · cases h; exact h4
        · cases h
theorem joinSp_len {K : Nat} : ∀ {l : List Str}, (∀ x ∈ l, x.length ≤ K) → (joinSp l).length ≤ l.length * (K + 1)
  | [], _ => by simp [joinSp]
  | [x], h => by have := h x (by simp); simp [joinSp]; omega
  | x :: y :: r, h => by
    have h1 := joinSp_len (l := y :: r) (fun z hz => h z (List.mem_cons_of_mem _ hz))
    have h2 := h x (by simp)
    have e1 : (x :: y :: r).length * (K + 1) = (y :: r).length * (K + 1) + (K + 1) := by rw [List.length_cons, Nat.succ_mul]
    rw [e1]
    simp only [joinSp, List.length_append, List.length_cons] at h1 ⊢
    omega
theorem joinSp_snoc : ∀ (l : List Str) (x : Str), l ≠ [] → joinSp (l ++ [x]) = joinSp l ++ 32 :: x
  | [], _, h => absurd rfl h
  | [y], x, _ => rfl
  | y :: z :: r, x, _ => by
    have := joinSp_snoc (z :: r) x (by simp)
    show y ++ 32 :: joinSp (z :: r ++ [x]) = (y ++ 32 :: joinSp (z :: r)) ++ 32 :: x
    rw [this]
    simp
def preB (s p : Str) : Bool := decide (p.length ≤ s.length) && (s.take p.length == p)
def sufB (s p : Str) : Bool := decide (p.length ≤ s.length) && (s.drop (s.length - p.length) == p)
def stemL (pat name : Str) : Str × Bool :=
  if (cutB 37 pat).2.2 = true ∧ (cutB 37 pat).1.length + (cutB 37 pat).2.1.length < name.length ∧ preB name (cutB 37 pat).1 = true ∧ sufB name (cutB 37 pat).2.1 = true
  then ((name.take (name.length - (cutB 37 pat).2.1.length)).drop (cutB 37 pat).1.length, true) else ([], false)
def cmdOf (ts ns : List Str) (stem c : Str) : Str := autoF (keyV (ts.headD []) (ns.headD []) (joinSp ns) stem) c
def tgtOf (r : Rul) (name stem : Str) : List Str := if stem = [] then r.targets else [name]
def ndsOf (r : Rul) (stem : Str) : List Str := r.needs.map fun n => onceF n stem
def groupF (m : Mk) (r : Rul) (name stem : Str) : Grp :=
  ⟨tgtOf r name stem, ndsOf r stem, r.cmds.map (cmdOf (tgtOf r name stem) (ndsOf r stem) stem), inS m.phony (r.targets.headD [])⟩
def explF (rs : List Rul) (name : Str) : Option Rul := rs.find? fun r => inS r.targets name
abbrev isF (l : List File) (n : Str) : Bool := getB n l
def hereB (m : Mk) (l : List File) (n : Str) : Bool := isF l n || (explF m.rules n).isSome
def patF (m : Mk) (l : List File) (name : Str) : List Rul → Option Grp
  | [] => none
  | r :: rs =>
    if (stemL (r.targets.headD []) name).2 = false then patF m l name rs
    else if (groupF m r name (stemL (r.targets.headD []) name).1).needs.all (hereB m l) = true then some (groupF m r name (stemL (r.targets.headD []) name).1)
    else patF m l name rs
def ruleF (m : Mk) (l : List File) (name : Str) : Option Grp :=
  match explF m.rules name with
  | some r => some (groupF m r name [])
  | none => patF m l name m.rules
def makerF (out : List Grp) (n : Str) : Option Nat := out.findIdx? fun g => inS g.targets n
def needsF (rec : List Grp → Str → List Grp × Int) : List Grp → List Str → List Grp × Int
  | out, [] => (out, 0)
  | out, n :: ns => if (rec out n).2 ≠ 0 then rec out n else needsF rec (rec out n).1 ns
def visitF (m : Mk) (l : List File) : Nat → List Str → List Grp → Str → List Grp × Int
  | 0, _, out, _ => (out, 8)
  | f + 1, way, out, name =>
    if inS way name = true then (out, 8)
    else if (makerF out name).isSome = true then (out, 0)
    else match ruleF m l name with
      | none => if isF l name = true then (out, 0) else (out, 5)
      | some g =>
        if (needsF (visitF m l f (way ++ g.targets)) out g.needs).2 ≠ 0 then needsF (visitF m l f (way ++ g.targets)) out g.needs
        else if (needsF (visitF m l f (way ++ g.targets)) out g.needs).1.length = 10 then ((needsF (visitF m l f (way ++ g.targets)) out g.needs).1, 2)
        else ((needsF (visitF m l f (way ++ g.targets)) out g.needs).1 ++ [g], 0)
def groupsF (m : Mk) (l : List File) (goal : Str) : List Grp × Int :=
  if nameB goal = false then ([], 3)
  else if (visitF m l 100 [] [] goal).2 ≠ 0 then ([], (visitF m l 100 [] [] goal).2)
  else ((visitF m l 100 [] [] goal).1, 0)
def candF (m : Mk) (l : List File) (goal : Str) : List Str := goal :: l.map (·.1) ++ m.rules.flatMap (·.targets) ++ m.rules.flatMap (fun r => ndsOf r [])
def leftF (c way : List Str) : Nat := (c.filter fun n => !inS way n).length
theorem leftF_lt {c way ts : List Str} {n : Str} (hn : n ∈ c) (hw : inS way n = false) (ht : n ∈ ts) : leftF c (way ++ ts) < leftF c way := by
  unfold leftF
  have hsub : ∀ x, (!inS (way ++ ts) x) = true → (!inS way x) = true := by
    intro x hx
    simp only [inS, Bool.not_eq_true', decide_eq_false_iff_not, List.mem_append, not_or] at hx ⊢
    exact hx.1
  have hs : inS (way ++ ts) n = true := by simp [inS, ht]
  induction c with
  | nil => cases hn
  | cons x xs ih =>
    have hle : ((xs.filter fun n => !inS (way ++ ts) n)).length ≤ (xs.filter fun n => !inS way n).length := by
      clear ih hn
      induction xs with
      | nil => simp
      | cons y ys ih =>
        simp only [List.filter_cons]
        by_cases h1 : (!inS (way ++ ts) y) = true
        · rw [if_pos h1, if_pos (hsub y h1)]; simp only [List.length_cons]; omega
        · rw [if_neg h1]; split <;> (try simp only [List.length_cons]) <;> omega
    simp only [List.filter_cons]
    by_cases hx : x = n
    · subst hx
      rw [if_neg (by rw [hs]; decide), if_pos (by rw [hw]; rfl)]
      simp only [List.length_cons]; omega
    · have hn' : n ∈ xs := by
        rcases List.mem_cons.1 hn with h | h
        · exact absurd h.symm hx
        · exact h
      have := ih hn'
      by_cases h1 : (!inS (way ++ ts) x) = true
      · rw [if_pos h1, if_pos (hsub x h1)]; simp only [List.length_cons]; omega
      · rw [if_neg h1]; split <;> (try simp only [List.length_cons]) <;> omega
theorem explF_some {rs : List Rul} {n : Str} {r : Rul} (h : explF rs n = some r) : r ∈ rs ∧ n ∈ r.targets := by
  unfold explF at h
  have h2 := List.find?_some h
  exact ⟨List.mem_of_find?_eq_some h, by simpa [inS] using h2⟩
theorem patF_some {m : Mk} {l : List File} {n : Str} {g : Grp} : ∀ {rs : List Rul}, patF m l n rs = some g → ∃ r ∈ rs, (stemL (r.targets.headD []) n).2 = true ∧ g = groupF m r n (stemL (r.targets.headD []) n).1 ∧ g.needs.all (hereB m l) = true
  | [], h => by cases h
  | r :: rs, h => by
    unfold patF at h
    split at h
    · obtain ⟨r', h1, h2⟩ := patF_some h
      exact ⟨r', List.mem_cons_of_mem _ h1, h2⟩
    · rename_i h1
      split at h
      · rename_i h2
        cases h
        exact ⟨r, by simp, by simpa using h1, rfl, h2⟩
      · obtain ⟨r', h1, h2⟩ := patF_some h
        exact ⟨r', List.mem_cons_of_mem _ h1, h2⟩
theorem stemL_ne {p n : Str} (h : (stemL p n).2 = true) : (stemL p n).1 ≠ [] := by
  unfold stemL at h ⊢
  split
  · rename_i h1
    rw [if_pos h1] at h
    intro e
    have := congrArg List.length e
    simp only [List.length_drop, List.length_take, List.length_nil] at this
    omega
  · rename_i h1
    rw [if_neg h1] at h
    cases h
theorem ruleF_some {m : Mk} {l : List File} {n : Str} {g : Grp} (h : ruleF m l n = some g) :
    (∃ r, explF m.rules n = some r ∧ g = groupF m r n []) ∨ (explF m.rules n = none ∧ ∃ r ∈ m.rules, (stemL (r.targets.headD []) n).2 = true ∧ g = groupF m r n (stemL (r.targets.headD []) n).1 ∧ g.needs.all (hereB m l) = true) := by
  unfold ruleF at h
  split at h
  · rename_i r hr; cases h; exact .inl ⟨r, hr, rfl⟩
  · rename_i hr; exact .inr ⟨hr, patF_some h⟩
theorem ruleF_own {m : Mk} {l : List File} {n : Str} {g : Grp} (h : ruleF m l n = some g) : n ∈ g.targets := by
  rcases ruleF_some h with ⟨r, hr, rfl⟩ | ⟨_, r, _, hs, rfl, _⟩
  · exact (explF_some hr).2
  · show n ∈ tgtOf r n _
    unfold tgtOf
    rw [if_neg (stemL_ne hs)]
    simp
theorem ruleF_cand {m : Mk} {l : List File} {goal n : Str} {g : Grp} (h : ruleF m l n = some g) : ∀ k ∈ g.needs, k ∈ candF m l goal := by
  intro k hk
  unfold candF
  rcases ruleF_some h with ⟨r, hr, rfl⟩ | ⟨_, r, _, hs, rfl, ha⟩
  · exact List.mem_append_right _ (List.mem_flatMap.2 ⟨r, (explF_some hr).1, hk⟩)
  · have := List.all_eq_true.1 ha k hk
    simp only [hereB, Bool.or_eq_true] at this
    rcases this with h1 | h1
    · have hm : k ∈ l.map (·.1) := by
        obtain ⟨x, hx⟩ := Option.isSome_iff_exists.1 h1
        unfold getL at hx
        have e := List.find?_some hx
        simp only [decide_eq_true_eq] at e
        exact e ▸ List.mem_map_of_mem (List.mem_of_find?_eq_some hx)
      exact List.mem_append_left _ (List.mem_append_left _ (List.mem_cons_of_mem _ hm))
    · obtain ⟨r', hr'⟩ := Option.isSome_iff_exists.1 h1
      have := explF_some hr'
      exact List.mem_append_left _ (List.mem_append_right _ (List.mem_flatMap.2 ⟨r', this.1, this.2⟩))
abbrev makeT : TypeId := 29
abbrev ruleT : TypeId := 108
abbrev varT : TypeId := 110
structure RulA where
  tA : Option Addr
  tc : Nat
  nA : Option Addr
  nc : Nat
  cA : Option Addr
  cc : Nat
def rulF : Flat (RulA × Rul) := ⟨3, fun x => [.slice x.1.tA x.2.targets.length x.1.tc, .slice x.1.nA x.2.needs.length x.1.nc, .slice x.1.cA x.2.cmds.length x.1.cc], fun _ => rfl⟩
structure SRow where
  A : Option Addr
  c : Nat
  xs : List Str
abbrev SRow.own (x : SRow) : Option Nat := (Value.slice x.A x.xs.length x.c).ownBlock
abbrev SRow.F (w wr : World) (x : SRow) : Prop := Fresh strF 9 w wr x.A x.c x.xs
def SRow.off (x y : SRow) : Prop := ∀ g, x.own = some g → y.own ≠ some g
theorem SRow.off_symm {x y : SRow} (h : x.off y) : y.off x := fun g h1 h2 => h g h2 h1
structure SRows (w wr : World) (L : List SRow) : Prop where
  f : ∀ x ∈ L, x.F w wr
  p : L.Pairwise SRow.off
section
variable {w wr u : World} {L L1 L2 : List SRow} {x : SRow}
theorem SRows.ext (h : SRows w wr L) (hx : Ext wr u) : SRows w u L := ⟨fun x hm => (h.f x hm).on hx, h.p⟩
theorem SRows.lt (h : SRows w wr L) (hm : x ∈ L) : ∀ g, x.own = some g → g < wr.heap.size := fun g hg => by
  obtain ⟨_, hc⟩ := own_cs (h.f x hm).own hg
  exact hc.lt
theorem SRows.keep (h : SRows w wr L) {F : Nat → Prop} (hx : Only F wr u) (hE : Ext w u) (hn : ∀ x ∈ L, ∀ g, x.own = some g → ¬ F g) : SRows w u L := ⟨fun x hm => (h.f x hm).keep hx hE (hn x hm), h.p⟩
theorem SRows.add (h : SRows w wr L) (hw : Ext w wr) (hx : x.F wr u) : SRows w u (L ++ [x]) := by
  refine ⟨fun y hy => ?_, ?_⟩
  · rcases List.mem_append.1 hy with hy | hy
    · exact (h.f y hy).on hx.ext
    · obtain rfl := List.mem_singleton.1 hy
      exact Fresh.from hx hw
  · rw [List.pairwise_append]
    refine ⟨h.p, List.pairwise_singleton _ _, fun a ha b hb => ?_⟩
    obtain rfl := List.mem_singleton.1 hb
    intro g h1 h2
    have := h.lt ha g h1
    have := hx.new g h2
    omega
theorem SRows.grow (h : SRows w u (L1 ++ x :: L2)) {A' : Option Addr} {c' : Nat} {w5 : World} {t : Str}
    (hown : w5.ownsRow 0 9 1 (.slice A' (x.xs.length + 1 : Nat) c') (x.xs.length + 1) (x.xs.flatMap strF.enc ++ [t].flatMap strF.enc)) (hg : u.grownBy w5 (Value.slice x.A x.xs.length x.c).ownBlock)
    (hb : (Value.slice A' (x.xs.length + 1 : Nat) c').ownBlock = (Value.slice x.A x.xs.length x.c).ownBlock ∨ (Value.slice A' (x.xs.length + 1 : Nat) c').ownBlock = some u.heap.size) :
    SRows w w5 (L1 ++ ⟨A', c', x.xs ++ [t]⟩ :: L2) := by
  have O5 : Only (fun b => (Value.slice x.A x.xs.length x.c).ownBlock = some b) u w5 := (Only.refl _ _).grown hg fun g e => .inr e
  have F5 := (h.f x (by simp)).grow (ys := [t]) rfl hown hg hb
  have hp := h.p
  rw [List.pairwise_append, List.pairwise_cons] at hp
  obtain ⟨p1, ⟨p2, p3⟩, p4⟩ := hp
  have q1 : ∀ y ∈ L1, y.off x := fun y hy => p4 y hy x (by simp)
  have new : ∀ y ∈ L1 ++ L2, y.off x → y.off ⟨A', c', x.xs ++ [t]⟩ := fun y hy ho g h1 h2 => by
    have hlt := h.lt (x := y) (by rcases List.mem_append.1 hy with hy | hy <;> simp [hy]) g h1
    have h2' : (Value.slice A' (x.xs.length + 1 : Nat) c').ownBlock = some g := by rw [← h2]; unfold SRow.own; rw [List.length_append]; rfl
    rcases hb with hb | hb
    · exact ho g h1 (hb.symm.trans h2')
    · rw [hb] at h2'
      injection h2' with h2'
      omega
  refine ⟨fun y hy => ?_, ?_⟩
  · rcases List.mem_append.1 hy with hy | hy
    · exact (h.f y (by simp [hy])).keep O5 F5.ext (fun g h1 h2 => q1 y hy g h1 h2)
    · rcases List.mem_cons.1 hy with rfl | hy
      · exact F5
      · exact (h.f y (by simp [hy])).keep O5 F5.ext (fun g h1 h2 => p2 y hy g h2 h1)
  · rw [List.pairwise_append, List.pairwise_cons]
    refine ⟨p1, ⟨fun y hy => SRow.off_symm (new y (by simp [hy]) (SRow.off_symm (p2 y hy))), p3⟩, fun a ha b hb' => ?_⟩
    rcases List.mem_cons.1 hb' with rfl | hb'
    · exact new a (by simp [ha]) (q1 a ha)
    · exact p4 a ha b (by simp [hb'])
end
abbrev rowsOf (x : RulA × Rul) : List SRow := [⟨x.1.tA, x.1.tc, x.2.targets⟩, ⟨x.1.nA, x.1.nc, x.2.needs⟩, ⟨x.1.cA, x.1.cc, x.2.cmds⟩]
structure MkV where
  vA : Option Addr
  vc : Nat
  rA : Option Addr
  rc : Nat
  pA : Option Addr
  pc : Nat
abbrev mkV0 : MkV := ⟨none, 0, none, 0, none, 0⟩
abbrev mkV (v : MkV) (m : Mk) : Value := .agg #[.slice v.vA m.vars.length v.vc, .slice v.rA m.rules.length v.rc, .slice v.pA m.phony.length v.pc]
structure MAt (Q : List SRow) (w wr : World) (g : Nat) (v : MkV) (rs : List (RulA × Rul)) (m : Mk) : Prop where
  rc : Cs wr g makeT #[.slice v.vA m.vars.length v.vc, .slice v.rA rs.length v.rc, .slice v.pA m.phony.length v.pc]
  fv : Fresh fileF varT w wr v.vA v.vc m.vars
  fr : Fresh rulF ruleT w wr v.rA v.rc rs
  ss : SRows w wr (Q ++ ⟨v.pA, v.pc, m.phony⟩ :: rs.flatMap rowsOf)
  rm : rs.map (·.2) = m.rules
  ng : w.heap.size ≤ g
structure MakeR (w : World) (v : MkV) (rs : List (RulA × Rul)) (m : Mk) : Prop where
  fv : SlR fileF w v.vA m.vars.length m.vars
  fr : SlR rulF w v.rA m.rules.length rs
  fp : SlR strF w v.pA m.phony.length m.phony
  rr : ∀ x ∈ rs, SlR strF w x.1.tA x.2.targets.length x.2.targets ∧ SlR strF w x.1.nA x.2.needs.length x.2.needs ∧ SlR strF w x.1.cA x.2.cmds.length x.2.cmds
  rm : rs.map (·.2) = m.rules
theorem makeR0 (w : World) : MakeR w mkV0 [] mk0 := ⟨SlR.none_, SlR.none_, SlR.none_, (fun x hx => by cases hx), rfl⟩
theorem MakeR.ext {w u : World} {v : MkV} {rs : List (RulA × Rul)} {m : Mk} (h : MakeR w v rs m) (hx : Ext w u) : MakeR u v rs m :=
  ⟨h.fv.ext hx, h.fr.ext hx, h.fp.ext hx, fun x hm => ⟨(h.rr x hm).1.ext hx, (h.rr x hm).2.1.ext hx, (h.rr x hm).2.2.ext hx⟩, h.rm⟩
theorem rules_get {w : World} {A : Option Addr} {n : Nat} {rs : List (RulA × Rul)} (h : SlR rulF w A n rs) {k : Nat} (hk : k < n) :
    ∃ b o x, A = some ⟨b, o, none⟩ ∧ rs[k]? = some x ∧ b < w.heap.size ∧ (∀ u, Ext w u → u.cell? ⟨b, o + k * 3, none⟩ = some (.slice x.1.tA x.2.targets.length x.1.tc)) ∧ (∀ u, Ext w u → u.cell? ⟨b, o + k * 3 + 1, none⟩ = some (.slice x.1.nA x.2.needs.length x.1.nc)) ∧ (∀ u, Ext w u → u.cell? ⟨b, o + k * 3 + 2, none⟩ = some (.slice x.1.cA x.2.cmds.length x.1.cc)) := by
  obtain ⟨b, o, x, e, hb, hx, hc⟩ := h.get hk
  exact ⟨b, o, x, e, hx, hb, fun u hu => (hu.cell hb id).trans (hc 0 _ rfl), fun u hu => (hu.cell hb id).trans (hc 1 _ rfl), fun u hu => (hu.cell hb id).trans (hc 2 _ rfl)⟩
section
variable {Q : List SRow} {w wr u : World} {g : Nat} {v : MkV} {rs : List (RulA × Rul)} {m : Mk}
theorem MAt.x (h : MAt Q w wr g v rs m) : Ext w wr := h.fv.ext
theorem MAt.rl (h : MAt Q w wr g v rs m) : rs.length = m.rules.length := by rw [← h.rm, List.length_map]
theorem MAt.ext (h : MAt Q w wr g v rs m) (hx : Ext wr u) : MAt Q w u g v rs m := ⟨h.rc.keep hx id, h.fv.on hx, h.fr.on hx, h.ss.ext hx, h.rm, h.ng⟩
theorem MAt.made (h : MAt Q w wr g v rs m) : MakeR wr v rs m := by
  refine ⟨h.fv.row (by decide), ?_, (h.ss.f ⟨v.pA, v.pc, m.phony⟩ (by simp)).row (by decide), fun x hx => ?_, h.rm⟩
  · have := h.fr.row (by decide)
    rw [h.rl] at this
    exact this
  · have q : ∀ y ∈ rowsOf x, y ∈ Q ++ (⟨v.pA, v.pc, m.phony⟩ : SRow) :: rs.flatMap rowsOf := fun y hy => List.mem_append_right _ (List.mem_cons_of_mem _ (List.mem_flatMap.2 ⟨x, hx, hy⟩))
    exact ⟨(h.ss.f _ (q ⟨x.1.tA, x.1.tc, x.2.targets⟩ (by simp))).row (by decide), (h.ss.f _ (q ⟨x.1.nA, x.1.nc, x.2.needs⟩ (by simp))).row (by decide), (h.ss.f _ (q ⟨x.1.cA, x.1.cc, x.2.cmds⟩ (by simp))).row (by decide)⟩
theorem MAt.at_ (h : MAt Q w wr g v rs m) (i : Nat) (x : Value) : Ext w (wr.setCell ⟨g, i, none⟩ x) :=
  h.x.trans ((Only.refl (fun b => b = g) wr).at_ i x) fun b hb e => by have e : b = g := e; have := h.ng; omega
theorem enc_last (rs : List (RulA × Rul)) (a : RulA) (r : Rul) (rest : List Value) : ((rs ++ [(a, r)]).flatMap rulF.enc ++ rest).toArray[rs.length * 3 + 2]? = some (.slice a.cA r.cmds.length a.cc) := by
  rw [List.getElem?_toArray, List.flatMap_append, List.append_assoc, List.getElem?_append_right (by rw [length_flatMap_enc]; show rs.length * 3 ≤ _; omega), length_flatMap_enc]
  show ([_, _, _] ++ rest)[rs.length * 3 + 2 - rs.length * 3]? = _
  rw [show rs.length * 3 + 2 - rs.length * 3 = 2 by omega]
  rfl
end
theorem SlR.take {α : Type} {T : Flat α} {w : World} {A : Option Addr} {n k : Nat} {xs : List α} (h : SlR T w A n xs) (hk : k ≤ n) : SlR T w A k (xs.take k) := by
  refine ⟨by rw [List.length_take, h.1]; omega, fun hn => ?_⟩
  obtain ⟨b, o, e, hb, hc⟩ := h.2 (by omega)
  refine ⟨b, o, e, hb, fun i x hx j u hu => ?_⟩
  rw [List.getElem?_take] at hx
  split at hx
  · exact hc i x hx j u hu
  · cases hx
theorem splB_mem (c : UInt8) : ∀ (s : Str), ∀ l ∈ splB c s, l.length ≤ s.length
  | [], l, h => by
    have h2 : l ∈ [([] : Str)] := h
    simp at h2
    subst h2
    exact Nat.le_refl _
  | x :: s, l, h => by
    have ih := splB_mem c s
    rw [splB_app] at h
    split at h
    · rcases List.mem_cons.1 h with rfl | h
      · exact Nat.zero_le _
      · have := ih l h
        simp only [List.length_cons]; omega
    · cases hL : splB c s with
      | nil => exact absurd hL (splB_ne c s)
      | cons a t =>
        rw [hL] at h ih
        simp only [headApp, List.mem_cons] at h
        rcases h with rfl | h
        · have := ih a (by simp)
          simp only [List.length_append, List.length_cons, List.length_nil]; omega
        · have := ih l (List.mem_cons_of_mem _ h)
          simp only [List.length_cons]; omega
theorem fieldsF_mem {s l : Str} (h : l ∈ fieldsF s) : l.length ≤ s.length := splB_mem 32 s l (List.mem_filter.1 h).1
theorem fieldsF_le (s : Str) : (fieldsF s).length ≤ s.length + 1 := Nat.le_trans (List.length_filter_le _ _) (splB_le 32 s)
theorem okFrom_cons (p : Bool) (seen r : List Str) (x : Str) : okFrom p seen (x :: r) = (wordB x && !inS seen x && (p || !patB x) && okFrom p (seen ++ [x]) r) := rfl
theorem take_succ_get {α : Type} {xs : List α} {k : Nat} {x : α} (hx : xs[k]? = some x) : xs.take (k + 1) = xs.take k ++ [x] := by rw [List.take_add_one, hx]; rfl
theorem drop_get {α : Type} {xs : List α} {k : Nat} {x : α} (hx : xs[k]? = some x) : xs.drop k = x :: xs.drop (k + 1) := by
  obtain ⟨hk, rfl⟩ := List.getElem?_eq_some_iff.1 hx
  exact List.drop_eq_getElem_cons hk
theorem any_take_succ {α : Type} (p : α → Bool) {xs : List α} {k : Nat} {x : α} (hx : xs[k]? = some x) : (xs.take (k + 1)).any p = ((xs.take k).any p || p x) := by
  rw [List.take_add_one, List.any_append, hx]
  simp
theorem fnd_mem {k : Str} {xs : List File} {v : File} (h : fndL k xs = some v) : v ∈ xs := List.mem_reverse.1 (List.mem_of_find?_eq_some h)
end Go.Proofs.YtnhaekifcieeoaaGreatDoor
