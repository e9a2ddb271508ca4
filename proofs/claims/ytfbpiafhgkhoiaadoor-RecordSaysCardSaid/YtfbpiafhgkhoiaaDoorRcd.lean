/- Records: how they lie in memory, and their text. -/
import Derived.Test.YtfbpiafhgkhoiaaDoorEnv
import Derived.Test.YtfbpiafhgkhoiaaDoorConc
import Derived.Test.YtfbpiafhgkhoiaaDoorTxt
import Derived.Lib.ItoaLen
namespace Go.Proofs.YtfbpiafhgkhoiaaDoor
open Go Go.RowKit
structure Rcd where
  cmds : List Str
  needs : List File
  out : List File
structure RcdV where
  cA : Option Addr
  cc : Nat
  nA : Option Addr
  nc : Nat
  oA : Option Addr
  oc : Nat
abbrev rcT : TypeId := 27
def rcdCs (v : RcdV) (r : Rcd) : Array Value := #[.slice v.cA r.cmds.length v.cc, .slice v.nA r.needs.length v.nc, .slice v.oA r.out.length v.oc]
abbrev rcdV (v : RcdV) (r : Rcd) : Value := .agg (rcdCs v r)
structure RcdR (w : World) (v : RcdV) (r : Rcd) : Prop where
  c : SlR strF w v.cA r.cmds.length r.cmds
  n : SlR fileF w v.nA r.needs.length r.needs
  o : SlR fileF w v.oA r.out.length r.out
theorem RcdR.ext {w u : World} {v : RcdV} {r : Rcd} (h : RcdR w v r) (hx : Ext w u) : RcdR u v r := ⟨h.c.ext hx, h.n.ext hx, h.o.ext hx⟩
structure Rcd.Lim (r : Rcd) : Prop where
  c : r.cmds.length ≤ 100
  n : r.needs.length ≤ 100
  o : r.out.length ≤ 100
  lc : ∀ x ∈ r.cmds, x.length ≤ 10000
  ln : ∀ x ∈ r.needs, x.1.length ≤ 10000 ∧ x.2.length ≤ 10000
  lo : ∀ x ∈ r.out, x.1.length ≤ 10000 ∧ x.2.length ≤ 10000
def cmdT (c : Str) : Str := [32] ++ Lib.itoa c.length ++ [58] ++ c
def filT (f : File) : Str := [32] ++ f.1 ++ [32] ++ Lib.itoa f.2.length ++ [58] ++ f.2
def hdrT (r : Rcd) : Str := Lib.itoa r.cmds.length ++ [32] ++ Lib.itoa r.needs.length ++ [32] ++ Lib.itoa r.out.length
/-- G2. -/
def recT (r : Rcd) : Str := hdrT r ++ r.cmds.flatMap cmdT ++ (r.needs ++ r.out).flatMap filT
theorem itoa_len (n : Nat) (h : n ≤ 1000000) : (Lib.itoa (n : Int)).length ≤ 21 := Lib.itoa_length_le _ (by omega) (by omega)
set_option maxRecDepth 100000 in
set_option maxHeartbeats 4000000 in
theorem RText_c {w : World} (hE : Env w) {v : RcdV} {r : Rcd} (h : RcdR w v r) (hl : r.Lim) :
    Calls Tryd.prog 13 #[rcdV v r] w fun e w' => e = .returned (S (recT r)) ∧ Ext w w' := by
  obtain ⟨cA, cc, nA, nc, oA, oc⟩ := v
  obtain ⟨w0, hw0⟩ : ∃ w0, w0 = w.alloc (.cells (rcdCs ⟨cA, cc, nA, nc, oA, oc⟩ r) rcT) := ⟨_, rfl⟩
  have hx0 : Ext w w0 := by rw [hw0]; exact (Only.refl No w).alloc _
  have hB : Cs w0 w.heap.size rcT (rcdCs ⟨cA, cc, nA, nc, oA, oc⟩ r) := by rw [hw0]; exact Cs.new _ _ _
  have d0 : ∀ ξ : X w0 No, ξ.v.cell? ⟨w.heap.size, 0, none⟩ = some (.slice cA r.cmds.length cc) := hB.x id 0
  have d1 : ∀ ξ : X w0 No, ξ.v.cell? ⟨w.heap.size, 1, none⟩ = some (.slice nA r.needs.length nc) := hB.x id 1
  have d2 : ∀ ξ : X w0 No, ξ.v.cell? ⟨w.heap.size, 2, none⟩ = some (.slice oA r.out.length oc) := hB.x id 2
  have HX0 := Lib.hid hx0
  have HR := Lib.hid (h.ext hx0)
  have hlc := hl.c
  have hln := hl.n
  have hlo := hl.o
  have HLc := Lib.hid hl.lc
  have HLn := Lib.hid hl.ln
  have HLo := Lib.hid hl.lo
  have HI : Hid (∀ (n : Nat) v, n ≤ 1000000 → Ext w0 v → Calls Tryd.prog 28 #[.int .i64 (n : Int)] v fun e w' => e = .returned (S (Lib.itoa (n : Int))) ∧ Ext v w') := fun n v hn hv => Itoa_c (n : Int) (by omega) (by omega) (hE.ext (hx0.then_ext hv))
  have hi1 := itoa_len r.cmds.length (by omega)
  have hi2 := itoa_len r.needs.length (by omega)
  have hi3 := itoa_len r.out.length (by omega)
  have HI1 := Lib.hid (fun v hv => HI.out r.cmds.length v (by omega) hv)
  have HI2 := Lib.hid (fun v hv => HI.out r.needs.length v (by omega) hv)
  have HI3 := Lib.hid (fun v hv => HI.out r.out.length v (by omega) hv)
  have HH : Hid (hdrT r = Lib.itoa r.cmds.length ++ [32] ++ Lib.itoa r.needs.length ++ [32] ++ Lib.itoa r.out.length) := rfl
  have hhl : (hdrT r).length ≤ 65 := by rw [HH.out]; simp only [List.length_append, List.length_cons, List.length_nil]; omega
  have HT : Hid (recT r = hdrT r ++ r.cmds.flatMap cmdT ++ (r.needs ++ r.out).flatMap filT) := rfl
  generalize hdrT r = hd at HH hhl HT
  generalize Lib.itoa (r.cmds.length : Int) = i1 at HI1 HH hi1
  generalize Lib.itoa (r.needs.length : Int) = i2 at HI2 HH hi2
  generalize Lib.itoa (r.out.length : Int) = i3 at HI3 HH hi3
  generalize recT r = R at HT ⊢
  clear hB hx0 h hl hE
  unfold rcdCs at hw0
  show Calls _ _ #[.agg #[.slice cA r.cmds.length cc, .slice nA r.needs.length nc, .slice oA r.out.length oc]] _ _
  go_enter Tryd.func13, Tryd.ntmps13
  go_upto_region 1 with fail
  rw [← hw0]
  clear hw0
  obtain ⟨ξ0, hξ0⟩ : ∃ ξ : X w0 No, ξ.v = w0 := ⟨X.here _ _, rfl⟩
  rw [← hξ0]
  clear hξ0
  go_upto_region 2 with fail
  refine Mix.wp_draw [4, 10, 17] 100 (Cl w0 No) (by kernel_rfl) (by kernel_rfl) (Cl.of ξ0.h.drew) ?_
  obtain ⟨μ0, hμ0⟩ : ∃ μ0 : X w0 No, μ0.v = ξ0.v.drew := ⟨⟨_, ξ0.h.drew⟩, rfl⟩
  rw [← hμ0]
  clear hμ0
  (repeat' (first | (refine Mix.lex_quiet0 rfl rfl rfl ?_; intro K hK; go_big_quiet_op; go_big_quiet_on) | (refine Mix.lex_quietG rfl rfl rfl (by with_reducible rfl) rfl rfl ?_; intro K hK; go_big_quiet_op; go_big_quiet_on) | ((first | refine Mix.lex_skipT rfl rfl rfl (by with_reducible rfl) ?_ | refine Mix.lex_skipF rfl rfl rfl (by with_reducible rfl) ?_ | refine Mix.lex_skipU rfl rfl rfl (by with_reducible rfl) ?_); simp only [Act.put, List.setIfInBounds_toArray, List.set_cons_succ, List.set_cons_zero]) | (refine Mix.lex_part rfl rfl rfl rfl (fun hq => ?_) (fun hq => ?_) <;> (fail_if_success (guard_hyp hq :ₛ true = true)) <;> (fail_if_success (guard_hyp hq :ₛ false = false)) <;> first | (exfalso; cases hq; done) | (exfalso; simp only [decide_eq_true_eq, decide_eq_false_iff_not, beq_iff_eq, beq_eq_false_iff_ne, ne_eq, Int.not_lt, Int.not_le] at hq; omega) | simp only [Act.put, List.setIfInBounds_toArray, List.set_cons_succ, List.set_cons_zero])))
  ((first | refine Mix.lex_goes0 rfl rfl ?_ | refine Mix.lex_goesG rfl rfl rfl (by with_reducible rfl) rfl ?_); intro K hK; go_simp); refine (HI1.out _ μ0.h).mono ?_; rintro e uu ⟨rfl, hu⟩; obtain ⟨μ1, hnew⟩ : ∃ ξ : X w0 No, ξ.v = uu := ⟨⟨uu, μ0.h.then_ext hu⟩, rfl⟩; subst hnew; have Hμ1 := Lib.hid hu; refine ⟨_, rfl, hK _ _ (fun _ => ⟨μ1, rfl⟩) ?_⟩; clear hK K hu; simp only [Act.put, List.setIfInBounds_toArray, List.set_cons_succ, List.set_cons_zero]; (repeat' (first | (refine Mix.lex_quiet0 rfl rfl rfl ?_; intro K hK; go_big_quiet_op; go_big_quiet_on) | (refine Mix.lex_quietG rfl rfl rfl (by with_reducible rfl) rfl rfl ?_; intro K hK; go_big_quiet_op; go_big_quiet_on) | ((first | refine Mix.lex_skipT rfl rfl rfl (by with_reducible rfl) ?_ | refine Mix.lex_skipF rfl rfl rfl (by with_reducible rfl) ?_ | refine Mix.lex_skipU rfl rfl rfl (by with_reducible rfl) ?_); simp only [Act.put, List.setIfInBounds_toArray, List.set_cons_succ, List.set_cons_zero]) | (refine Mix.lex_part rfl rfl rfl rfl (fun hq => ?_) (fun hq => ?_) <;> (fail_if_success (guard_hyp hq :ₛ true = true)) <;> (fail_if_success (guard_hyp hq :ₛ false = false)) <;> first | (exfalso; cases hq; done) | (exfalso; simp only [decide_eq_true_eq, decide_eq_false_iff_not, beq_iff_eq, beq_eq_false_iff_ne, ne_eq, Int.not_lt, Int.not_le] at hq; omega) | simp only [Act.put, List.setIfInBounds_toArray, List.set_cons_succ, List.set_cons_zero])))
  ((first | refine Mix.lex_goes0 rfl rfl ?_ | refine Mix.lex_goesG rfl rfl rfl (by with_reducible rfl) rfl ?_); intro K hK; go_simp); refine (HI2.out _ μ1.h).mono ?_; rintro e uu ⟨rfl, hu⟩; obtain ⟨μ2, hnew⟩ : ∃ ξ : X w0 No, ξ.v = uu := ⟨⟨uu, μ1.h.then_ext hu⟩, rfl⟩; subst hnew; have Hμ2 := Lib.hid hu; refine ⟨_, rfl, hK _ _ (fun _ => ⟨μ2, rfl⟩) ?_⟩; clear hK K hu; simp only [Act.put, List.setIfInBounds_toArray, List.set_cons_succ, List.set_cons_zero]; (repeat' (first | (refine Mix.lex_quiet0 rfl rfl rfl ?_; intro K hK; go_big_quiet_op; go_big_quiet_on) | (refine Mix.lex_quietG rfl rfl rfl (by with_reducible rfl) rfl rfl ?_; intro K hK; go_big_quiet_op; go_big_quiet_on) | ((first | refine Mix.lex_skipT rfl rfl rfl (by with_reducible rfl) ?_ | refine Mix.lex_skipF rfl rfl rfl (by with_reducible rfl) ?_ | refine Mix.lex_skipU rfl rfl rfl (by with_reducible rfl) ?_); simp only [Act.put, List.setIfInBounds_toArray, List.set_cons_succ, List.set_cons_zero]) | (refine Mix.lex_part rfl rfl rfl rfl (fun hq => ?_) (fun hq => ?_) <;> (fail_if_success (guard_hyp hq :ₛ true = true)) <;> (fail_if_success (guard_hyp hq :ₛ false = false)) <;> first | (exfalso; cases hq; done) | (exfalso; simp only [decide_eq_true_eq, decide_eq_false_iff_not, beq_iff_eq, beq_eq_false_iff_ne, ne_eq, Int.not_lt, Int.not_le] at hq; omega) | simp only [Act.put, List.setIfInBounds_toArray, List.set_cons_succ, List.set_cons_zero])))
  ((first | refine Mix.lex_goes0 rfl rfl ?_ | refine Mix.lex_goesG rfl rfl rfl (by with_reducible rfl) rfl ?_); intro K hK; go_simp); refine (HI3.out _ μ2.h).mono ?_; rintro e uu ⟨rfl, hu⟩; obtain ⟨μ3, hnew⟩ : ∃ ξ : X w0 No, ξ.v = uu := ⟨⟨uu, μ2.h.then_ext hu⟩, rfl⟩; subst hnew; have Hμ3 := Lib.hid hu; refine ⟨_, rfl, hK _ _ (fun _ => ⟨μ3, rfl⟩) ?_⟩; clear hK K hu; simp only [Act.put, List.setIfInBounds_toArray, List.set_cons_succ, List.set_cons_zero]; (repeat' (first | (refine Mix.lex_quiet0 rfl rfl rfl ?_; intro K hK; go_big_quiet_op; go_big_quiet_on) | (refine Mix.lex_quietG rfl rfl rfl (by with_reducible rfl) rfl rfl ?_; intro K hK; go_big_quiet_op; go_big_quiet_on) | ((first | refine Mix.lex_skipT rfl rfl rfl (by with_reducible rfl) ?_ | refine Mix.lex_skipF rfl rfl rfl (by with_reducible rfl) ?_ | refine Mix.lex_skipU rfl rfl rfl (by with_reducible rfl) ?_); simp only [Act.put, List.setIfInBounds_toArray, List.set_cons_succ, List.set_cons_zero]) | (refine Mix.lex_part rfl rfl rfl rfl (fun hq => ?_) (fun hq => ?_) <;> (fail_if_success (guard_hyp hq :ₛ true = true)) <;> (fail_if_success (guard_hyp hq :ₛ false = false)) <;> first | (exfalso; cases hq; done) | (exfalso; simp only [decide_eq_true_eq, decide_eq_false_iff_not, beq_iff_eq, beq_eq_false_iff_ne, ne_eq, Int.not_lt, Int.not_le] at hq; omega) | simp only [Act.put, List.setIfInBounds_toArray, List.set_cons_succ, List.set_cons_zero])))
  refine Mix.lex_nil ?_
  have hd2 : hd = i1 ++ 32 :: (i2 ++ 32 :: i3) := by rw [HH.out]; simp
  have HHd := Lib.hid hd2
  have HIx : Hid (∀ (n : Nat), n ≤ 1000000 → (Lib.itoa (n : Int)).length ≤ 21) := itoa_len
  clear HI1 HI2 HI3 HH hd2
  go_wp2_with (first | (refine Mix.wpList_guarded rfl ?_; (repeat' (first | (refine Mix.lex_quiet0 rfl rfl rfl ?_; intro K hK; go_big_quiet_op; go_big_quiet_on) | (refine Mix.lex_quietG rfl rfl rfl (by with_reducible rfl) rfl rfl ?_; intro K hK; go_big_quiet_op; go_big_quiet_on) | ((first | refine Mix.lex_skipT rfl rfl rfl (by with_reducible rfl) ?_ | refine Mix.lex_skipF rfl rfl rfl (by with_reducible rfl) ?_ | refine Mix.lex_skipU rfl rfl rfl (by with_reducible rfl) ?_); simp only [Act.put, List.setIfInBounds_toArray, List.set_cons_succ, List.set_cons_zero]) | (refine Mix.lex_part rfl rfl rfl rfl (fun hq => ?_) (fun hq => ?_) <;> (fail_if_success (guard_hyp hq :ₛ true = true)) <;> (fail_if_success (guard_hyp hq :ₛ false = false)) <;> first | (exfalso; cases hq; done) | (exfalso; simp only [decide_eq_true_eq, decide_eq_false_iff_not, beq_iff_eq, beq_eq_false_iff_ne, ne_eq, Int.not_lt, Int.not_le] at hq; omega) | simp only [Act.put, List.setIfInBounds_toArray, List.set_cons_succ, List.set_cons_zero]))); all_goals (refine Mix.lex_nil ?_)) | (refine Mix.wp_still (by kernel_rfl) (by kernel_rfl) ?_; (repeat' (first | (refine Mix.lex_quiet0 rfl rfl rfl ?_; intro K hK; go_big_quiet_op; go_big_quiet_on) | (refine Mix.lex_quietG rfl rfl rfl (by with_reducible rfl) rfl rfl ?_; intro K hK; go_big_quiet_op; go_big_quiet_on) | ((first | refine Mix.lex_skipT rfl rfl rfl (by with_reducible rfl) ?_ | refine Mix.lex_skipF rfl rfl rfl (by with_reducible rfl) ?_ | refine Mix.lex_skipU rfl rfl rfl (by with_reducible rfl) ?_); simp only [Act.put, List.setIfInBounds_toArray, List.set_cons_succ, List.set_cons_zero]) | (refine Mix.lex_part rfl rfl rfl rfl (fun hq => ?_) (fun hq => ?_) <;> (fail_if_success (guard_hyp hq :ₛ true = true)) <;> (fail_if_success (guard_hyp hq :ₛ false = false)) <;> first | (exfalso; cases hq; done) | (exfalso; simp only [decide_eq_true_eq, decide_eq_false_iff_not, beq_iff_eq, beq_eq_false_iff_ne, ne_eq, Int.not_lt, Int.not_le] at hq; omega) | simp only [Act.put, List.setIfInBounds_toArray, List.set_cons_succ, List.set_cons_zero]))); all_goals (refine Mix.lex_nil ?_)))
  go_loopw [4, 31] (fun s i wr => ∃ j : Nat, j ≤ r.cmds.length ∧ i = .int .i64 j ∧ ∃ acc : Str, s = S acc ∧ acc = hd ++ (r.cmds.take j).flatMap cmdT ∧ acc.length ≤ 65 + 10100 * j ∧ ∃ ξ : X w0 No, wr = ξ.v) (fun _ i _ => r.cmds.length - (intOf i).toNat)
  case atStart => exact ⟨0, Nat.zero_le _, rfl, hd, by rw [HHd.out], by simp, by omega, μ3, rfl⟩
  case round =>
    obtain ⟨j, hj, rfl, acc, rfl, hA, hal, ξ, rfl⟩ := hrel
    have HA := Lib.hid hA
    clear hA
    by_cases hlt : j < r.cmds.length
    · obtain ⟨b, o, x, rfl, hx, c0⟩ := strs_get HR.out.c hlt
      have hxl := HLc.out x (List.mem_of_getElem? hx)
      have hil := HIx.out x.length (by omega)
      have HIc := Lib.hid (fun v hv => HI.out x.length v (by omega) hv)
      have HS : Hid ((r.cmds.take (j + 1)).flatMap cmdT = (r.cmds.take j).flatMap cmdT ++ ([32] ++ Lib.itoa x.length ++ [58] ++ x)) := by
        rw [Hid, List.take_add_one, hx, List.flatMap_append]; simp [cmdT]
      generalize Lib.itoa (x.length : Int) = il at hil HIc HS
      clear hx
      go_wp2_with (first | (refine Mix.wpList_guarded rfl ?_; (repeat' (first | (refine Mix.lex_quiet0 rfl rfl rfl ?_; intro K hK; go_big_quiet_op; go_big_quiet_on) | (refine Mix.lex_quietG rfl rfl rfl (by with_reducible rfl) rfl rfl ?_; intro K hK; go_big_quiet_op; go_big_quiet_on) | ((first | refine Mix.lex_skipT rfl rfl rfl (by with_reducible rfl) ?_ | refine Mix.lex_skipF rfl rfl rfl (by with_reducible rfl) ?_ | refine Mix.lex_skipU rfl rfl rfl (by with_reducible rfl) ?_); simp only [Act.put, List.setIfInBounds_toArray, List.set_cons_succ, List.set_cons_zero]) | (refine Mix.lex_part rfl rfl rfl rfl (fun hq => ?_) (fun hq => ?_) <;> (fail_if_success (guard_hyp hq :ₛ true = true)) <;> (fail_if_success (guard_hyp hq :ₛ false = false)) <;> first | (exfalso; cases hq; done) | (exfalso; simp only [decide_eq_true_eq, decide_eq_false_iff_not, beq_iff_eq, beq_eq_false_iff_ne, ne_eq, Int.not_lt, Int.not_le] at hq; omega) | simp only [Act.put, List.setIfInBounds_toArray, List.set_cons_succ, List.set_cons_zero]))); all_goals (refine Mix.lex_nil ?_)) | (refine Mix.wp_still (by kernel_rfl) (by kernel_rfl) ?_; (repeat' (first | (refine Mix.lex_quiet0 rfl rfl rfl ?_; intro K hK; go_big_quiet_op; go_big_quiet_on) | (refine Mix.lex_quietG rfl rfl rfl (by with_reducible rfl) rfl rfl ?_; intro K hK; go_big_quiet_op; go_big_quiet_on) | ((first | refine Mix.lex_skipT rfl rfl rfl (by with_reducible rfl) ?_ | refine Mix.lex_skipF rfl rfl rfl (by with_reducible rfl) ?_ | refine Mix.lex_skipU rfl rfl rfl (by with_reducible rfl) ?_); simp only [Act.put, List.setIfInBounds_toArray, List.set_cons_succ, List.set_cons_zero]) | (refine Mix.lex_part rfl rfl rfl rfl (fun hq => ?_) (fun hq => ?_) <;> (fail_if_success (guard_hyp hq :ₛ true = true)) <;> (fail_if_success (guard_hyp hq :ₛ false = false)) <;> first | (exfalso; cases hq; done) | (exfalso; simp only [decide_eq_true_eq, decide_eq_false_iff_not, beq_iff_eq, beq_eq_false_iff_ne, ne_eq, Int.not_lt, Int.not_le] at hq; omega) | simp only [Act.put, List.setIfInBounds_toArray, List.set_cons_succ, List.set_cons_zero]))); all_goals (refine Mix.lex_nil ?_)))
      refine (HIc.out _ ξ.h).mono ?_; rintro e uu ⟨rfl, hu⟩; obtain ⟨ξ1, hnew⟩ : ∃ ξ : X w0 No, ξ.v = uu := ⟨⟨uu, ξ.h.then_ext hu⟩, rfl⟩; subst hnew; have Hξ1 := Lib.hid hu; clear hu
      go_wp2_with (first | (refine Mix.wpList_guarded rfl ?_; (repeat' (first | (refine Mix.lex_quiet0 rfl rfl rfl ?_; intro K hK; go_big_quiet_op; go_big_quiet_on) | (refine Mix.lex_quietG rfl rfl rfl (by with_reducible rfl) rfl rfl ?_; intro K hK; go_big_quiet_op; go_big_quiet_on) | ((first | refine Mix.lex_skipT rfl rfl rfl (by with_reducible rfl) ?_ | refine Mix.lex_skipF rfl rfl rfl (by with_reducible rfl) ?_ | refine Mix.lex_skipU rfl rfl rfl (by with_reducible rfl) ?_); simp only [Act.put, List.setIfInBounds_toArray, List.set_cons_succ, List.set_cons_zero]) | (refine Mix.lex_part rfl rfl rfl rfl (fun hq => ?_) (fun hq => ?_) <;> (fail_if_success (guard_hyp hq :ₛ true = true)) <;> (fail_if_success (guard_hyp hq :ₛ false = false)) <;> first | (exfalso; cases hq; done) | (exfalso; simp only [decide_eq_true_eq, decide_eq_false_iff_not, beq_iff_eq, beq_eq_false_iff_ne, ne_eq, Int.not_lt, Int.not_le] at hq; omega) | simp only [Act.put, List.setIfInBounds_toArray, List.set_cons_succ, List.set_cons_zero]))); all_goals (refine Mix.lex_nil ?_)) | (refine Mix.wp_still (by kernel_rfl) (by kernel_rfl) ?_; (repeat' (first | (refine Mix.lex_quiet0 rfl rfl rfl ?_; intro K hK; go_big_quiet_op; go_big_quiet_on) | (refine Mix.lex_quietG rfl rfl rfl (by with_reducible rfl) rfl rfl ?_; intro K hK; go_big_quiet_op; go_big_quiet_on) | ((first | refine Mix.lex_skipT rfl rfl rfl (by with_reducible rfl) ?_ | refine Mix.lex_skipF rfl rfl rfl (by with_reducible rfl) ?_ | refine Mix.lex_skipU rfl rfl rfl (by with_reducible rfl) ?_); simp only [Act.put, List.setIfInBounds_toArray, List.set_cons_succ, List.set_cons_zero]) | (refine Mix.lex_part rfl rfl rfl rfl (fun hq => ?_) (fun hq => ?_) <;> (fail_if_success (guard_hyp hq :ₛ true = true)) <;> (fail_if_success (guard_hyp hq :ₛ false = false)) <;> first | (exfalso; cases hq; done) | (exfalso; simp only [decide_eq_true_eq, decide_eq_false_iff_not, beq_iff_eq, beq_eq_false_iff_ne, ne_eq, Int.not_lt, Int.not_le] at hq; omega) | simp only [Act.put, List.setIfInBounds_toArray, List.set_cons_succ, List.set_cons_zero]))); all_goals (refine Mix.lex_nil ?_)))
      go_roundw
      case rel => exact ⟨j + 1, by omega, by go_num, _, rfl, by rw [HS.out, HA.out]; simp, by simp only [List.length_append, List.length_cons]; omega, ξ1, rfl⟩
      case measure => simp [intOf]; omega
    · have HA2 : Hid (acc = hd ++ r.cmds.flatMap cmdT) := by
        have := HA.out
        rw [List.take_of_length_le (by omega)] at this
        exact this
      clear HA
      obtain ⟨u, hu⟩ : ∃ u, u = ξ.v.alloc (.cells #[.slice nA r.needs.length nc, .slice oA r.out.length oc] 25) := ⟨_, rfl⟩
      have hxu : Ext ξ.v u := by rw [hu]; exact (Only.refl No _).alloc _
      have hcu : Cs u ξ.v.heap.size 25 #[.slice nA r.needs.length nc, .slice oA r.out.length oc] := by rw [hu]; exact Cs.new _ _ _
      have HC := Lib.hid (Concat_c (c := nc) (d := oc) hcu (HR.out.n.ext (ξ.h.then_ext hxu)) (HR.out.o.ext (ξ.h.then_ext hxu)) (by omega) (by omega))
      have XU : Hid (Ext w0 u) := ξ.h.then_ext hxu
      have HLf : Hid (∀ x ∈ r.needs ++ r.out, x.1.length ≤ 10000 ∧ x.2.length ≤ 10000) := fun x hx => by
        rcases List.mem_append.1 hx with hx | hx
        · exact HLn.out x hx
        · exact HLo.out x hx
      have hyl : (r.needs ++ r.out).length ≤ 200 := by rw [List.length_append]; omega
      generalize r.needs ++ r.out = ys at HC HT HLf hyl
      have HAl : Hid (acc.length ≤ 1020000) := by unfold Hid; omega
      clear hxu hcu hal HLn HLo HHd
      go_wp2_with fail
      rw [← hu]
      clear hu
      refine HC.out.mono ?_
      rintro e u2 ⟨A', c', rfl, hf⟩
      have XU2 : Hid (Ext w0 u2) := XU.out.then_ext hf.ext
      have F := Lib.hid (hf.row (by decide))
      obtain ⟨ζ, hζ⟩ : ∃ ζ : X u2 No, ζ.v = u2 := ⟨X.here _ _, rfl⟩
      rw [← hζ]
      clear hf HC XU hζ
      go_wp2_with (first | (refine Mix.wpList_guarded rfl ?_; (repeat' (first | (refine Mix.lex_quiet0 rfl rfl rfl ?_; intro K hK; go_big_quiet_op; go_big_quiet_on) | (refine Mix.lex_quietG rfl rfl rfl (by with_reducible rfl) rfl rfl ?_; intro K hK; go_big_quiet_op; go_big_quiet_on) | ((first | refine Mix.lex_skipT rfl rfl rfl (by with_reducible rfl) ?_ | refine Mix.lex_skipF rfl rfl rfl (by with_reducible rfl) ?_ | refine Mix.lex_skipU rfl rfl rfl (by with_reducible rfl) ?_); simp only [Act.put, List.setIfInBounds_toArray, List.set_cons_succ, List.set_cons_zero]) | (refine Mix.lex_part rfl rfl rfl rfl (fun hq => ?_) (fun hq => ?_) <;> (fail_if_success (guard_hyp hq :ₛ true = true)) <;> (fail_if_success (guard_hyp hq :ₛ false = false)) <;> first | (exfalso; cases hq; done) | (exfalso; simp only [decide_eq_true_eq, decide_eq_false_iff_not, beq_iff_eq, beq_eq_false_iff_ne, ne_eq, Int.not_lt, Int.not_le] at hq; omega) | simp only [Act.put, List.setIfInBounds_toArray, List.set_cons_succ, List.set_cons_zero]))); all_goals (refine Mix.lex_nil ?_)) | (refine Mix.wp_still (by kernel_rfl) (by kernel_rfl) ?_; (repeat' (first | (refine Mix.lex_quiet0 rfl rfl rfl ?_; intro K hK; go_big_quiet_op; go_big_quiet_on) | (refine Mix.lex_quietG rfl rfl rfl (by with_reducible rfl) rfl rfl ?_; intro K hK; go_big_quiet_op; go_big_quiet_on) | ((first | refine Mix.lex_skipT rfl rfl rfl (by with_reducible rfl) ?_ | refine Mix.lex_skipF rfl rfl rfl (by with_reducible rfl) ?_ | refine Mix.lex_skipU rfl rfl rfl (by with_reducible rfl) ?_); simp only [Act.put, List.setIfInBounds_toArray, List.set_cons_succ, List.set_cons_zero]) | (refine Mix.lex_part rfl rfl rfl rfl (fun hq => ?_) (fun hq => ?_) <;> (fail_if_success (guard_hyp hq :ₛ true = true)) <;> (fail_if_success (guard_hyp hq :ₛ false = false)) <;> first | (exfalso; cases hq; done) | (exfalso; simp only [decide_eq_true_eq, decide_eq_false_iff_not, beq_iff_eq, beq_eq_false_iff_ne, ne_eq, Int.not_lt, Int.not_le] at hq; omega) | simp only [Act.put, List.setIfInBounds_toArray, List.set_cons_succ, List.set_cons_zero]))); all_goals (refine Mix.lex_nil ?_)))
      go_loopw [4, 53] (fun s i wr => ∃ j : Nat, j ≤ ys.length ∧ i = .int .i64 j ∧ ∃ ac2 : Str, s = S ac2 ∧ ac2 = acc ++ (ys.take j).flatMap filT ∧ ac2.length ≤ 1020000 + 20100 * j ∧ ∃ ξ : X u2 No, wr = ξ.v) (fun _ i _ => ys.length - (intOf i).toNat)
      case atStart => exact ⟨0, Nat.zero_le _, rfl, acc, rfl, by simp, by have := HAl.out; omega, ζ, rfl⟩
      case round =>
        obtain ⟨j, hj, rfl, ac2, rfl, hA, hal, ξ2, rfl⟩ := hrel
        have HA := Lib.hid hA
        clear hA
        by_cases hlt2 : j < ys.length
        · obtain ⟨b, o, x, rfl, hx, c0, c1⟩ := files_get F.out hlt2
          obtain ⟨hxl1, hxl2⟩ := HLf.out x (List.mem_of_getElem? hx)
          have hil := HIx.out x.2.length (by omega)
          have HIc := Lib.hid (fun v (hv : Ext u2 v) => HI.out x.2.length v (by omega) (XU2.out.then_ext hv))
          have HS : Hid ((ys.take (j + 1)).flatMap filT = (ys.take j).flatMap filT ++ ([32] ++ x.1 ++ [32] ++ Lib.itoa x.2.length ++ [58] ++ x.2)) := by
            rw [Hid, List.take_add_one, hx, List.flatMap_append]; simp [filT]
          generalize Lib.itoa (x.2.length : Int) = il at hil HIc HS
          obtain ⟨u3, hu3⟩ : ∃ u, u = ξ2.v.alloc (.cells #[S x.1, S x.2] 45) := ⟨_, rfl⟩
          have hcu : Cs u3 ξ2.v.heap.size 45 #[S x.1, S x.2] := by rw [hu3]; exact Cs.new _ _ _
          have XU3 : Hid (Ext u2 u3) := by rw [hu3]; exact ξ2.h.alloc _
          have e0 : ∀ ξ : X u3 No, ξ.v.cell? ⟨ξ2.v.heap.size, 0, none⟩ = some (S x.1) := hcu.x id 0
          have e1 : ∀ ξ : X u3 No, ξ.v.cell? ⟨ξ2.v.heap.size, 1, none⟩ = some (S x.2) := hcu.x id 1
          clear hx hcu
          go_upto_region 11 with fail
          rw [← hu3]
          clear hu3
          refine Mix.wp_draw [9] 100 (Cl u3 No) (by kernel_rfl) (by kernel_rfl) (Cl.of (Only.refl _ _).drew) ?_
          obtain ⟨ν0, hν0⟩ : ∃ ν0 : X u3 No, ν0.v = u3.drew := ⟨⟨_, (Only.refl _ _).drew⟩, rfl⟩
          rw [← hν0]
          clear hν0
          (repeat' (first | (refine Mix.lex_quiet0 rfl rfl rfl ?_; intro K hK; go_big_quiet_op; go_big_quiet_on) | (refine Mix.lex_quietG rfl rfl rfl (by with_reducible rfl) rfl rfl ?_; intro K hK; go_big_quiet_op; go_big_quiet_on) | ((first | refine Mix.lex_skipT rfl rfl rfl (by with_reducible rfl) ?_ | refine Mix.lex_skipF rfl rfl rfl (by with_reducible rfl) ?_ | refine Mix.lex_skipU rfl rfl rfl (by with_reducible rfl) ?_); simp only [Act.put, List.setIfInBounds_toArray, List.set_cons_succ, List.set_cons_zero]) | (refine Mix.lex_part rfl rfl rfl rfl (fun hq => ?_) (fun hq => ?_) <;> (fail_if_success (guard_hyp hq :ₛ true = true)) <;> (fail_if_success (guard_hyp hq :ₛ false = false)) <;> first | (exfalso; cases hq; done) | (exfalso; simp only [decide_eq_true_eq, decide_eq_false_iff_not, beq_iff_eq, beq_eq_false_iff_ne, ne_eq, Int.not_lt, Int.not_le] at hq; omega) | simp only [Act.put, List.setIfInBounds_toArray, List.set_cons_succ, List.set_cons_zero])))
          ((first | refine Mix.lex_goes0 rfl rfl ?_ | refine Mix.lex_goesG rfl rfl rfl (by with_reducible rfl) rfl ?_); intro K hK; go_simp); refine (HIc.out _ (XU3.out.then_ext ν0.h)).mono ?_; rintro e uu ⟨rfl, hu⟩; obtain ⟨ν1, hnew⟩ : ∃ ξ : X u3 No, ξ.v = uu := ⟨⟨uu, ν0.h.then_ext hu⟩, rfl⟩; subst hnew; have Hν1 := Lib.hid hu; refine ⟨_, rfl, hK _ _ (fun _ => ⟨ν1, rfl⟩) ?_⟩; clear hK K hu; simp only [Act.put, List.setIfInBounds_toArray, List.set_cons_succ, List.set_cons_zero]; (repeat' (first | (refine Mix.lex_quiet0 rfl rfl rfl ?_; intro K hK; go_big_quiet_op; go_big_quiet_on) | (refine Mix.lex_quietG rfl rfl rfl (by with_reducible rfl) rfl rfl ?_; intro K hK; go_big_quiet_op; go_big_quiet_on) | ((first | refine Mix.lex_skipT rfl rfl rfl (by with_reducible rfl) ?_ | refine Mix.lex_skipF rfl rfl rfl (by with_reducible rfl) ?_ | refine Mix.lex_skipU rfl rfl rfl (by with_reducible rfl) ?_); simp only [Act.put, List.setIfInBounds_toArray, List.set_cons_succ, List.set_cons_zero]) | (refine Mix.lex_part rfl rfl rfl rfl (fun hq => ?_) (fun hq => ?_) <;> (fail_if_success (guard_hyp hq :ₛ true = true)) <;> (fail_if_success (guard_hyp hq :ₛ false = false)) <;> first | (exfalso; cases hq; done) | (exfalso; simp only [decide_eq_true_eq, decide_eq_false_iff_not, beq_iff_eq, beq_eq_false_iff_ne, ne_eq, Int.not_lt, Int.not_le] at hq; omega) | simp only [Act.put, List.setIfInBounds_toArray, List.set_cons_succ, List.set_cons_zero])))
          refine Mix.lex_nil ?_
          have XU4 : Hid (Ext u2 ν1.v) := XU3.out.then_ext ν1.h
          go_wp2_with (first | (refine Mix.wpList_guarded rfl ?_; (repeat' (first | (refine Mix.lex_quiet0 rfl rfl rfl ?_; intro K hK; go_big_quiet_op; go_big_quiet_on) | (refine Mix.lex_quietG rfl rfl rfl (by with_reducible rfl) rfl rfl ?_; intro K hK; go_big_quiet_op; go_big_quiet_on) | ((first | refine Mix.lex_skipT rfl rfl rfl (by with_reducible rfl) ?_ | refine Mix.lex_skipF rfl rfl rfl (by with_reducible rfl) ?_ | refine Mix.lex_skipU rfl rfl rfl (by with_reducible rfl) ?_); simp only [Act.put, List.setIfInBounds_toArray, List.set_cons_succ, List.set_cons_zero]) | (refine Mix.lex_part rfl rfl rfl rfl (fun hq => ?_) (fun hq => ?_) <;> (fail_if_success (guard_hyp hq :ₛ true = true)) <;> (fail_if_success (guard_hyp hq :ₛ false = false)) <;> first | (exfalso; cases hq; done) | (exfalso; simp only [decide_eq_true_eq, decide_eq_false_iff_not, beq_iff_eq, beq_eq_false_iff_ne, ne_eq, Int.not_lt, Int.not_le] at hq; omega) | simp only [Act.put, List.setIfInBounds_toArray, List.set_cons_succ, List.set_cons_zero]))); all_goals (refine Mix.lex_nil ?_)) | (refine Mix.wp_still (by kernel_rfl) (by kernel_rfl) ?_; (repeat' (first | (refine Mix.lex_quiet0 rfl rfl rfl ?_; intro K hK; go_big_quiet_op; go_big_quiet_on) | (refine Mix.lex_quietG rfl rfl rfl (by with_reducible rfl) rfl rfl ?_; intro K hK; go_big_quiet_op; go_big_quiet_on) | ((first | refine Mix.lex_skipT rfl rfl rfl (by with_reducible rfl) ?_ | refine Mix.lex_skipF rfl rfl rfl (by with_reducible rfl) ?_ | refine Mix.lex_skipU rfl rfl rfl (by with_reducible rfl) ?_); simp only [Act.put, List.setIfInBounds_toArray, List.set_cons_succ, List.set_cons_zero]) | (refine Mix.lex_part rfl rfl rfl rfl (fun hq => ?_) (fun hq => ?_) <;> (fail_if_success (guard_hyp hq :ₛ true = true)) <;> (fail_if_success (guard_hyp hq :ₛ false = false)) <;> first | (exfalso; cases hq; done) | (exfalso; simp only [decide_eq_true_eq, decide_eq_false_iff_not, beq_iff_eq, beq_eq_false_iff_ne, ne_eq, Int.not_lt, Int.not_le] at hq; omega) | simp only [Act.put, List.setIfInBounds_toArray, List.set_cons_succ, List.set_cons_zero]))); all_goals (refine Mix.lex_nil ?_)))
          go_roundw
          case rel => exact ⟨j + 1, by omega, by go_num, _, rfl, by rw [HS.out, HA.out]; simp, by simp only [List.length_append, List.length_cons]; omega, ⟨_, XU4.out⟩, rfl⟩
          case measure => simp [intOf]; omega
        · have HRes : Hid (R = ac2) := by
            have := HA.out
            rw [List.take_of_length_le (by omega)] at this
            rw [Hid, HT.out, this, HA2.out]
          clear HA
          go_wp2_with (first | (refine Mix.wpList_guarded rfl ?_; (repeat' (first | (refine Mix.lex_quiet0 rfl rfl rfl ?_; intro K hK; go_big_quiet_op; go_big_quiet_on) | (refine Mix.lex_quietG rfl rfl rfl (by with_reducible rfl) rfl rfl ?_; intro K hK; go_big_quiet_op; go_big_quiet_on) | ((first | refine Mix.lex_skipT rfl rfl rfl (by with_reducible rfl) ?_ | refine Mix.lex_skipF rfl rfl rfl (by with_reducible rfl) ?_ | refine Mix.lex_skipU rfl rfl rfl (by with_reducible rfl) ?_); simp only [Act.put, List.setIfInBounds_toArray, List.set_cons_succ, List.set_cons_zero]) | (refine Mix.lex_part rfl rfl rfl rfl (fun hq => ?_) (fun hq => ?_) <;> (fail_if_success (guard_hyp hq :ₛ true = true)) <;> (fail_if_success (guard_hyp hq :ₛ false = false)) <;> first | (exfalso; cases hq; done) | (exfalso; simp only [decide_eq_true_eq, decide_eq_false_iff_not, beq_iff_eq, beq_eq_false_iff_ne, ne_eq, Int.not_lt, Int.not_le] at hq; omega) | simp only [Act.put, List.setIfInBounds_toArray, List.set_cons_succ, List.set_cons_zero]))); all_goals (refine Mix.lex_nil ?_)) | (refine Mix.wp_still (by kernel_rfl) (by kernel_rfl) ?_; (repeat' (first | (refine Mix.lex_quiet0 rfl rfl rfl ?_; intro K hK; go_big_quiet_op; go_big_quiet_on) | (refine Mix.lex_quietG rfl rfl rfl (by with_reducible rfl) rfl rfl ?_; intro K hK; go_big_quiet_op; go_big_quiet_on) | ((first | refine Mix.lex_skipT rfl rfl rfl (by with_reducible rfl) ?_ | refine Mix.lex_skipF rfl rfl rfl (by with_reducible rfl) ?_ | refine Mix.lex_skipU rfl rfl rfl (by with_reducible rfl) ?_); simp only [Act.put, List.setIfInBounds_toArray, List.set_cons_succ, List.set_cons_zero]) | (refine Mix.lex_part rfl rfl rfl rfl (fun hq => ?_) (fun hq => ?_) <;> (fail_if_success (guard_hyp hq :ₛ true = true)) <;> (fail_if_success (guard_hyp hq :ₛ false = false)) <;> first | (exfalso; cases hq; done) | (exfalso; simp only [decide_eq_true_eq, decide_eq_false_iff_not, beq_iff_eq, beq_eq_false_iff_ne, ne_eq, Int.not_lt, Int.not_le] at hq; omega) | simp only [Act.put, List.setIfInBounds_toArray, List.set_cons_succ, List.set_cons_zero]))); all_goals (refine Mix.lex_nil ?_)))
          go_ret
          rw [HRes.out]
          exact ⟨rfl, HX0.out.then_ext (XU2.out.then_ext ξ2.h)⟩
end Go.Proofs.YtfbpiafhgkhoiaaDoor
