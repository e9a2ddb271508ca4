/- recipe.All. -/
import Derived.Test.YtnplipljfmnjgaaDoorRec4
import Derived.Test.YtnplipljfmnjgaaDoorGrp
namespace Go.Proofs.YtnplipljfmnjgaaDoor
open Go Go.RowKit
def Ov.runs (o : Ov) : List Str → Ov × Int
  | [] => (o, 0)
  | c :: cs => if (o.run c).2 = 0 then Ov.runs (o.run c).1 cs else ((o.run c).1, (o.run c).2)
def ov0 (xs : List File) (g : Grp) : Ov := ⟨xs, [], g.needs, g.targets⟩
/-- C2. -/
def allF (xs : List File) (g : Grp) : List File × Int :=
  if ((ov0 xs g).runs g.cmds).2 = 0 then (if ((ov0 xs g).runs g.cmds).1.own.length < g.targets.length then ([], 5) else (((ov0 xs g).runs g.cmds).1.own, 0)) else ([], ((ov0 xs g).runs g.cmds).2)
theorem Ov.runs_cons (o : Ov) (c : Str) (cs : List Str) : o.runs (c :: cs) = if (o.run c).2 = 0 then (o.run c).1.runs cs else ((o.run c).1, (o.run c).2) := rfl
theorem ov0_fit (xs : List File) (g : Grp) : (ov0 xs g).Fit xs g.needs g.targets 0 := ⟨rfl, rfl, rfl, by simp [Rise, ov0], Nat.le_refl _, fun f hf => by cases hf⟩
theorem getT_max {k : Str} {xs : List File} (h : ∀ f ∈ xs, f.2.length ≤ maxLen) : (getT k xs).length ≤ maxLen := by
  unfold getT
  cases hg : getL fk k xs with
  | none => simp
  | some x => exact h x (mem_getL_ hg)
theorem Ov.Fit.rd_max {xs : List File} {ns ts : List Str} {k : Nat} {o : Ov} (h : o.Fit xs ns ts k) (hx : ∀ f ∈ xs, f.2.length ≤ maxLen) (a : Str) : (o.rd a).length ≤ maxLen := by
  unfold Ov.rd
  split
  · exact Nat.le_trans (getT_len h.tx) (by unfold maxLen; omega)
  · split
    · split
      · exact getT_max (by rw [h.eb]; exact hx)
      · simp
    · simp
set_option maxRecDepth 100000 in
set_option maxHeartbeats 2000000 in
theorem All_c' {w : World} (hm : Ml w) {A : Option Addr} {n c : Nat} {xs : List File} (h1 : SlR fileF w A n xs) (hn : n ≤ 10000) (hr : Rise fk xs) (hxm : ∀ f ∈ xs, f.2.length ≤ maxLen) {v : GrpV} {g : Grp} (hg : GrpR w v g) (hl : g.Lim) (hxt : (∀ f ∈ xs, f.2.length ≤ 1000) ∨ ∀ c ∈ g.cmds, wd c 0 = kTurn) :
    Calls Tryd.prog 10 #[.slice A n c, grpV v g] w fun e w' => ∃ A' c', e = .returned (.tuple #[.slice A' (allF xs g).1.length c', errV (allF xs g).2]) ∧ Fresh fileF 47 w w' A' c' (allF xs g).1 := by
  obtain ⟨tA, tc, nA, nc, cA, cc⟩ := v
  obtain ⟨w0, hw0⟩ : ∃ w0, w0 = w.alloc (.cells (grpCs ⟨tA, tc, nA, nc, cA, cc⟩ g) 25) := ⟨_, rfl⟩
  have hx0 : Ext w w0 := by rw [hw0]; exact (Only.refl No w).alloc _
  have hB : Cs w0 w.heap.size 25 (grpCs ⟨tA, tc, nA, nc, cA, cc⟩ g) := by rw [hw0]; exact Cs.new _ _ _
  have d0 : ∀ ξ : X w0 No, ξ.v.cell? ⟨w.heap.size, 0, none⟩ = some (.slice tA g.targets.length tc) := hB.x id 0
  have d1 : ∀ ξ : X w0 No, ξ.v.cell? ⟨w.heap.size, 1, none⟩ = some (.slice nA g.needs.length nc) := hB.x id 1
  have d2 : ∀ ξ : X w0 No, ξ.v.cell? ⟨w.heap.size, 2, none⟩ = some (.slice cA g.cmds.length cc) := hB.x id 2
  have e0 : w0.cell? ⟨w.heap.size, 0, none⟩ = some (.slice tA g.targets.length tc) := hB.cell 0
  have e1 : w0.cell? ⟨w.heap.size, 1, none⟩ = some (.slice nA g.needs.length nc) := hB.cell 1
  have HX0 := Lib.hid hx0
  have HM := Lib.hid (hm.ext hx0)
  have HGr := Lib.hid (hg.ext hx0)
  have ht1 := hl.t
  have ht2 := hl.n
  have ht3 := hl.c
  have HLl := Lib.hid hl.l
  have HNew := Lib.hid (New_c (c := c) (d := nc) (e := tc) (h1.ext hx0) HGr.out.n HGr.out.t hn (by omega) (by omega))
  have hlen := h1.1
  have HA : Hid (allF xs g = if ((ov0 xs g).runs g.cmds).2 = 0 then (if ((ov0 xs g).runs g.cmds).1.own.length < g.targets.length then ([], 5) else (((ov0 xs g).runs g.cmds).1.own, 0)) else ([], ((ov0 xs g).runs g.cmds).2)) := rfl
  have HSm : Hid (∀ k o, k ≤ 10000 → Ov.Fit xs g.needs g.targets k o → o.Small ∧ (∀ k, (o.rd k).length ≤ maxLen) ∧ ∀ c ∈ g.cmds, wd c 0 = kTurn ∨ o.Tx) := fun k o hk hf => ⟨hf.small (by omega) (by omega) (by omega) hk hr, hf.rd_max hxm, fun c hc => hxt.elim (fun h => .inr (hf.txs h)) fun h => .inl (h c hc)⟩
  have HF0 := Lib.hid (ov0_fit xs g)
  obtain ⟨o0, ho0⟩ : ∃ o0, o0 = ov0 xs g := ⟨_, rfl⟩
  have HO0 : Hid (o0 = ⟨xs, [], g.needs, g.targets⟩) := ho0
  rw [← ho0] at HA HF0
  generalize allF xs g = R at HA ⊢
  clear hB hx0 hm hg hl h1 hr hxt hxm ho0
  unfold grpCs at hw0
  show Calls _ _ #[_, .agg #[.slice tA g.targets.length tc, .slice nA g.needs.length nc, .slice cA g.cmds.length cc, .bool g.phony]] _ _
  go_enter Tryd.func10, Tryd.ntmps10
  go_upto_region 1 with fail
  rw [← hw0]
  clear hw0
  go_wp2_with (first | (refine Mix.wpList_guarded rfl ?_; (repeat' (first | (refine Mix.lex_quiet0 rfl rfl rfl ?_; intro K hK; go_big_quiet_op; go_big_quiet_on) | (refine Mix.lex_quietG rfl rfl rfl (by with_reducible rfl) rfl rfl ?_; intro K hK; go_big_quiet_op; go_big_quiet_on) | ((first | refine Mix.lex_skipT rfl rfl rfl (by with_reducible rfl) ?_ | refine Mix.lex_skipF rfl rfl rfl (by with_reducible rfl) ?_ | refine Mix.lex_skipU rfl rfl rfl (by with_reducible rfl) ?_); simp only [Act.put, List.setIfInBounds_toArray, List.set_cons_succ, List.set_cons_zero]) | (refine Mix.lex_part rfl rfl rfl rfl (fun hq => ?_) (fun hq => ?_) <;> (fail_if_success (guard_hyp hq :ₛ true = true)) <;> (fail_if_success (guard_hyp hq :ₛ false = false)) <;> first | (exfalso; cases hq; done) | (exfalso; simp only [decide_eq_true_eq, decide_eq_false_iff_not, beq_iff_eq, beq_eq_false_iff_ne, ne_eq, Int.not_lt, Int.not_le] at hq; omega) | simp only [Act.put, List.setIfInBounds_toArray, List.set_cons_succ, List.set_cons_zero]))); all_goals (refine Mix.lex_nil ?_)) | (refine Mix.wp_still (by kernel_rfl) (by kernel_rfl) ?_; (repeat' (first | (refine Mix.lex_quiet0 rfl rfl rfl ?_; intro K hK; go_big_quiet_op; go_big_quiet_on) | (refine Mix.lex_quietG rfl rfl rfl (by with_reducible rfl) rfl rfl ?_; intro K hK; go_big_quiet_op; go_big_quiet_on) | ((first | refine Mix.lex_skipT rfl rfl rfl (by with_reducible rfl) ?_ | refine Mix.lex_skipF rfl rfl rfl (by with_reducible rfl) ?_ | refine Mix.lex_skipU rfl rfl rfl (by with_reducible rfl) ?_); simp only [Act.put, List.setIfInBounds_toArray, List.set_cons_succ, List.set_cons_zero]) | (refine Mix.lex_part rfl rfl rfl rfl (fun hq => ?_) (fun hq => ?_) <;> (fail_if_success (guard_hyp hq :ₛ true = true)) <;> (fail_if_success (guard_hyp hq :ₛ false = false)) <;> first | (exfalso; cases hq; done) | (exfalso; simp only [decide_eq_true_eq, decide_eq_false_iff_not, beq_iff_eq, beq_eq_false_iff_ne, ne_eq, Int.not_lt, Int.not_le] at hq; omega) | simp only [Act.put, List.setIfInBounds_toArray, List.set_cons_succ, List.set_cons_zero]))); all_goals (refine Mix.lex_nil ?_)))
  refine HNew.out.mono ?_
  rintro e u ⟨q, r, rfl, ho, hx, hq⟩
  rw [← HO0.out] at ho
  have HOv := Lib.hid ho
  have HU : Hid (Ext w0 u) := hx
  clear ho hx HNew HO0
  obtain ⟨ξ, rfl⟩ : ∃ ξ : X w0 No, u = ξ.v := ⟨⟨u, HU.out⟩, rfl⟩
  go_wp2_with (first | (refine Mix.wpList_guarded rfl ?_; (repeat' (first | (refine Mix.lex_quiet0 rfl rfl rfl ?_; intro K hK; go_big_quiet_op; go_big_quiet_on) | (refine Mix.lex_quietG rfl rfl rfl (by with_reducible rfl) rfl rfl ?_; intro K hK; go_big_quiet_op; go_big_quiet_on) | ((first | refine Mix.lex_skipT rfl rfl rfl (by with_reducible rfl) ?_ | refine Mix.lex_skipF rfl rfl rfl (by with_reducible rfl) ?_ | refine Mix.lex_skipU rfl rfl rfl (by with_reducible rfl) ?_); simp only [Act.put, List.setIfInBounds_toArray, List.set_cons_succ, List.set_cons_zero]) | (refine Mix.lex_part rfl rfl rfl rfl (fun hq => ?_) (fun hq => ?_) <;> (fail_if_success (guard_hyp hq :ₛ true = true)) <;> (fail_if_success (guard_hyp hq :ₛ false = false)) <;> first | (exfalso; cases hq; done) | (exfalso; simp only [decide_eq_true_eq, decide_eq_false_iff_not, beq_iff_eq, beq_eq_false_iff_ne, ne_eq, Int.not_lt, Int.not_le] at hq; omega) | simp only [Act.put, List.setIfInBounds_toArray, List.set_cons_succ, List.set_cons_zero]))); all_goals (refine Mix.lex_nil ?_)) | (refine Mix.wp_still (by kernel_rfl) (by kernel_rfl) ?_; (repeat' (first | (refine Mix.lex_quiet0 rfl rfl rfl ?_; intro K hK; go_big_quiet_op; go_big_quiet_on) | (refine Mix.lex_quietG rfl rfl rfl (by with_reducible rfl) rfl rfl ?_; intro K hK; go_big_quiet_op; go_big_quiet_on) | ((first | refine Mix.lex_skipT rfl rfl rfl (by with_reducible rfl) ?_ | refine Mix.lex_skipF rfl rfl rfl (by with_reducible rfl) ?_ | refine Mix.lex_skipU rfl rfl rfl (by with_reducible rfl) ?_); simp only [Act.put, List.setIfInBounds_toArray, List.set_cons_succ, List.set_cons_zero]) | (refine Mix.lex_part rfl rfl rfl rfl (fun hq => ?_) (fun hq => ?_) <;> (fail_if_success (guard_hyp hq :ₛ true = true)) <;> (fail_if_success (guard_hyp hq :ₛ false = false)) <;> first | (exfalso; cases hq; done) | (exfalso; simp only [decide_eq_true_eq, decide_eq_false_iff_not, beq_iff_eq, beq_eq_false_iff_ne, ne_eq, Int.not_lt, Int.not_le] at hq; omega) | simp only [Act.put, List.setIfInBounds_toArray, List.set_cons_succ, List.set_cons_zero]))); all_goals (refine Mix.lex_nil ?_)))
  go_loopw [20] (fun i wr => ∃ j : Nat, j ≤ g.cmds.length ∧ i = .int .i64 j ∧ ∃ r' o', OvAt oP wr q r' o' ∧ o'.Fit xs g.needs g.targets j ∧ o0.runs g.cmds = o'.runs (g.cmds.drop j) ∧ Ext w0 wr) (fun i _ => g.cmds.length - (intOf i).toNat)
  case atStart => exact ⟨0, Nat.zero_le _, rfl, r, o0, HOv.out, HF0.out, rfl, HU.out⟩
  case round =>
    clear HOv HU ξ
    obtain ⟨j, hj, rfl, r', o', hO, hF, hJ, hX⟩ := hrel
    have HO := Lib.hid hO
    have HF := Lib.hid hF
    have HJ := Lib.hid hJ
    obtain ⟨ξ, rfl⟩ : ∃ ξ : X w0 No, wr = ξ.v := ⟨⟨wr, hX⟩, rfl⟩
    clear hO hF hJ hX
    obtain ⟨hsm, hrm, htx⟩ := HSm.out j o' (by omega) HF.out
    by_cases hlt : j < g.cmds.length
    · obtain ⟨b, o, x, hBe, hx, c0⟩ := strs_get HGr.out.c hlt
      have hdr : Hid (g.cmds.drop j = x :: g.cmds.drop (j + 1)) := by
        obtain ⟨hl, rfl⟩ := List.getElem?_eq_some_iff.1 hx
        exact List.drop_eq_getElem_cons hl
      have hxl := HLl.out x (List.mem_of_getElem? hx)
      have HRun := Lib.hid (Run_c' x (HM.out.ext ξ.h) HO.out hsm hrm (htx x (List.mem_of_getElem? hx)) hxl)
      have HJ2 : Hid (o0.runs g.cmds = if (o'.run x).2 = 0 then (o'.run x).1.runs (g.cmds.drop (j + 1)) else ((o'.run x).1, (o'.run x).2)) := by rw [Hid, HJ.out, hdr.out, Ov.runs_cons]
      have HF2 := Lib.hid (HF.out.run x)
      generalize o'.run x = y at HRun HJ2 HF2
      obtain ⟨o2, f⟩ := y
      dsimp only at HRun HJ2 HF2
      subst hBe
      clear hx hdr hxl HJ hsm hrm htx
      go_wp2_with (first | (refine Mix.wpList_guarded rfl ?_; (repeat' (first | (refine Mix.lex_quiet0 rfl rfl rfl ?_; intro K hK; go_big_quiet_op; go_big_quiet_on) | (refine Mix.lex_quietG rfl rfl rfl (by with_reducible rfl) rfl rfl ?_; intro K hK; go_big_quiet_op; go_big_quiet_on) | ((first | refine Mix.lex_skipT rfl rfl rfl (by with_reducible rfl) ?_ | refine Mix.lex_skipF rfl rfl rfl (by with_reducible rfl) ?_ | refine Mix.lex_skipU rfl rfl rfl (by with_reducible rfl) ?_); simp only [Act.put, List.setIfInBounds_toArray, List.set_cons_succ, List.set_cons_zero]) | (refine Mix.lex_part rfl rfl rfl rfl (fun hq => ?_) (fun hq => ?_) <;> (fail_if_success (guard_hyp hq :ₛ true = true)) <;> (fail_if_success (guard_hyp hq :ₛ false = false)) <;> first | (exfalso; cases hq; done) | (exfalso; simp only [decide_eq_true_eq, decide_eq_false_iff_not, beq_iff_eq, beq_eq_false_iff_ne, ne_eq, Int.not_lt, Int.not_le] at hq; omega) | simp only [Act.put, List.setIfInBounds_toArray, List.set_cons_succ, List.set_cons_zero]))); all_goals (refine Mix.lex_nil ?_)) | (refine Mix.wp_still (by kernel_rfl) (by kernel_rfl) ?_; (repeat' (first | (refine Mix.lex_quiet0 rfl rfl rfl ?_; intro K hK; go_big_quiet_op; go_big_quiet_on) | (refine Mix.lex_quietG rfl rfl rfl (by with_reducible rfl) rfl rfl ?_; intro K hK; go_big_quiet_op; go_big_quiet_on) | ((first | refine Mix.lex_skipT rfl rfl rfl (by with_reducible rfl) ?_ | refine Mix.lex_skipF rfl rfl rfl (by with_reducible rfl) ?_ | refine Mix.lex_skipU rfl rfl rfl (by with_reducible rfl) ?_); simp only [Act.put, List.setIfInBounds_toArray, List.set_cons_succ, List.set_cons_zero]) | (refine Mix.lex_part rfl rfl rfl rfl (fun hq => ?_) (fun hq => ?_) <;> (fail_if_success (guard_hyp hq :ₛ true = true)) <;> (fail_if_success (guard_hyp hq :ₛ false = false)) <;> first | (exfalso; cases hq; done) | (exfalso; simp only [decide_eq_true_eq, decide_eq_false_iff_not, beq_iff_eq, beq_eq_false_iff_ne, ne_eq, Int.not_lt, Int.not_le] at hq; omega) | simp only [Act.put, List.setIfInBounds_toArray, List.set_cons_succ, List.set_cons_zero]))); all_goals (refine Mix.lex_nil ?_)))
      refine HRun.out.mono ?_
      rintro e u ⟨rfl, r2, h1, h2⟩
      have HO2 := Lib.hid h1
      have HX2 : Hid (Ext w0 u) := ξ.h.trans h2 fun b hb e => by omega
      clear h1 h2 HRun
      obtain ⟨ξ2, rfl⟩ : ∃ ξ : X w0 No, u = ξ.v := ⟨⟨u, HX2.out⟩, rfl⟩
      by_cases hf : f = 0
      · have HJ3 : Hid (o0.runs g.cmds = o2.runs (g.cmds.drop (j + 1))) := by rw [Hid, HJ2.out, if_pos hf]
        subst hf
        rw [errV_zero]
        clear HJ2
        go_wp2_with (first | (refine Mix.wpList_guarded rfl ?_; (repeat' (first | (refine Mix.lex_quiet0 rfl rfl rfl ?_; intro K hK; go_big_quiet_op; go_big_quiet_on) | (refine Mix.lex_quietG rfl rfl rfl (by with_reducible rfl) rfl rfl ?_; intro K hK; go_big_quiet_op; go_big_quiet_on) | ((first | refine Mix.lex_skipT rfl rfl rfl (by with_reducible rfl) ?_ | refine Mix.lex_skipF rfl rfl rfl (by with_reducible rfl) ?_ | refine Mix.lex_skipU rfl rfl rfl (by with_reducible rfl) ?_); simp only [Act.put, List.setIfInBounds_toArray, List.set_cons_succ, List.set_cons_zero]) | (refine Mix.lex_part rfl rfl rfl rfl (fun hq => ?_) (fun hq => ?_) <;> (fail_if_success (guard_hyp hq :ₛ true = true)) <;> (fail_if_success (guard_hyp hq :ₛ false = false)) <;> first | (exfalso; cases hq; done) | (exfalso; simp only [decide_eq_true_eq, decide_eq_false_iff_not, beq_iff_eq, beq_eq_false_iff_ne, ne_eq, Int.not_lt, Int.not_le] at hq; omega) | simp only [Act.put, List.setIfInBounds_toArray, List.set_cons_succ, List.set_cons_zero]))); all_goals (refine Mix.lex_nil ?_)) | (refine Mix.wp_still (by kernel_rfl) (by kernel_rfl) ?_; (repeat' (first | (refine Mix.lex_quiet0 rfl rfl rfl ?_; intro K hK; go_big_quiet_op; go_big_quiet_on) | (refine Mix.lex_quietG rfl rfl rfl (by with_reducible rfl) rfl rfl ?_; intro K hK; go_big_quiet_op; go_big_quiet_on) | ((first | refine Mix.lex_skipT rfl rfl rfl (by with_reducible rfl) ?_ | refine Mix.lex_skipF rfl rfl rfl (by with_reducible rfl) ?_ | refine Mix.lex_skipU rfl rfl rfl (by with_reducible rfl) ?_); simp only [Act.put, List.setIfInBounds_toArray, List.set_cons_succ, List.set_cons_zero]) | (refine Mix.lex_part rfl rfl rfl rfl (fun hq => ?_) (fun hq => ?_) <;> (fail_if_success (guard_hyp hq :ₛ true = true)) <;> (fail_if_success (guard_hyp hq :ₛ false = false)) <;> first | (exfalso; cases hq; done) | (exfalso; simp only [decide_eq_true_eq, decide_eq_false_iff_not, beq_iff_eq, beq_eq_false_iff_ne, ne_eq, Int.not_lt, Int.not_le] at hq; omega) | simp only [Act.put, List.setIfInBounds_toArray, List.set_cons_succ, List.set_cons_zero]))); all_goals (refine Mix.lex_nil ?_)))
        go_roundw
        case rel => exact ⟨j + 1, by omega, by go_num, r2, o2, HO2.out, HF2.out, HJ3.out, HX2.out⟩
        case measure => simp [intOf]; omega
      · have HRes : Hid (R = ([], f)) := by
          rw [Hid, HA.out, HJ2.out, if_neg hf]
          exact if_neg hf
        have HE := Lib.hid (errV_pos hf)
        rw [errV_pos hf]
        clear HJ2 HA hf
        go_wp2_with (first | (refine Mix.wpList_guarded rfl ?_; (repeat' (first | (refine Mix.lex_quiet0 rfl rfl rfl ?_; intro K hK; go_big_quiet_op; go_big_quiet_on) | (refine Mix.lex_quietG rfl rfl rfl (by with_reducible rfl) rfl rfl ?_; intro K hK; go_big_quiet_op; go_big_quiet_on) | ((first | refine Mix.lex_skipT rfl rfl rfl (by with_reducible rfl) ?_ | refine Mix.lex_skipF rfl rfl rfl (by with_reducible rfl) ?_ | refine Mix.lex_skipU rfl rfl rfl (by with_reducible rfl) ?_); simp only [Act.put, List.setIfInBounds_toArray, List.set_cons_succ, List.set_cons_zero]) | (refine Mix.lex_part rfl rfl rfl rfl (fun hq => ?_) (fun hq => ?_) <;> (fail_if_success (guard_hyp hq :ₛ true = true)) <;> (fail_if_success (guard_hyp hq :ₛ false = false)) <;> first | (exfalso; cases hq; done) | (exfalso; simp only [decide_eq_true_eq, decide_eq_false_iff_not, beq_iff_eq, beq_eq_false_iff_ne, ne_eq, Int.not_lt, Int.not_le] at hq; omega) | simp only [Act.put, List.setIfInBounds_toArray, List.set_cons_succ, List.set_cons_zero]))); all_goals (refine Mix.lex_nil ?_)) | (refine Mix.wp_still (by kernel_rfl) (by kernel_rfl) ?_; (repeat' (first | (refine Mix.lex_quiet0 rfl rfl rfl ?_; intro K hK; go_big_quiet_op; go_big_quiet_on) | (refine Mix.lex_quietG rfl rfl rfl (by with_reducible rfl) rfl rfl ?_; intro K hK; go_big_quiet_op; go_big_quiet_on) | ((first | refine Mix.lex_skipT rfl rfl rfl (by with_reducible rfl) ?_ | refine Mix.lex_skipF rfl rfl rfl (by with_reducible rfl) ?_ | refine Mix.lex_skipU rfl rfl rfl (by with_reducible rfl) ?_); simp only [Act.put, List.setIfInBounds_toArray, List.set_cons_succ, List.set_cons_zero]) | (refine Mix.lex_part rfl rfl rfl rfl (fun hq => ?_) (fun hq => ?_) <;> (fail_if_success (guard_hyp hq :ₛ true = true)) <;> (fail_if_success (guard_hyp hq :ₛ false = false)) <;> first | (exfalso; cases hq; done) | (exfalso; simp only [decide_eq_true_eq, decide_eq_false_iff_not, beq_iff_eq, beq_eq_false_iff_ne, ne_eq, Int.not_lt, Int.not_le] at hq; omega) | simp only [Act.put, List.setIfInBounds_toArray, List.set_cons_succ, List.set_cons_zero]))); all_goals (refine Mix.lex_nil ?_)))
        go_ret2
        rw [HRes.out]
        exact ⟨none, 0, by rw [HE.out]; rfl, Fresh.nil _ _ _ _ (HX0.out.then_ext HX2.out)⟩
    · obtain rfl : j = g.cmds.length := by omega
      have HJ2 : Hid (o0.runs g.cmds = (o', 0)) := by rw [Hid, HJ.out, List.drop_length]; rfl
      have HOw := Lib.hid (Own_c rfl HO.out hsm)
      have hol := hsm.own
      have HA2 : Hid (R = if o'.own.length < g.targets.length then ([], 5) else (o'.own, 0)) := by
        rw [Hid, HA.out, HJ2.out]
        exact if_pos rfl
      clear HJ HJ2 HA hsm hrm htx
      go_wp2_with (first | (refine Mix.wpList_guarded rfl ?_; (repeat' (first | (refine Mix.lex_quiet0 rfl rfl rfl ?_; intro K hK; go_big_quiet_op; go_big_quiet_on) | (refine Mix.lex_quietG rfl rfl rfl (by with_reducible rfl) rfl rfl ?_; intro K hK; go_big_quiet_op; go_big_quiet_on) | ((first | refine Mix.lex_skipT rfl rfl rfl (by with_reducible rfl) ?_ | refine Mix.lex_skipF rfl rfl rfl (by with_reducible rfl) ?_ | refine Mix.lex_skipU rfl rfl rfl (by with_reducible rfl) ?_); simp only [Act.put, List.setIfInBounds_toArray, List.set_cons_succ, List.set_cons_zero]) | (refine Mix.lex_part rfl rfl rfl rfl (fun hq => ?_) (fun hq => ?_) <;> (fail_if_success (guard_hyp hq :ₛ true = true)) <;> (fail_if_success (guard_hyp hq :ₛ false = false)) <;> first | (exfalso; cases hq; done) | (exfalso; simp only [decide_eq_true_eq, decide_eq_false_iff_not, beq_iff_eq, beq_eq_false_iff_ne, ne_eq, Int.not_lt, Int.not_le] at hq; omega) | simp only [Act.put, List.setIfInBounds_toArray, List.set_cons_succ, List.set_cons_zero]))); all_goals (refine Mix.lex_nil ?_)) | (refine Mix.wp_still (by kernel_rfl) (by kernel_rfl) ?_; (repeat' (first | (refine Mix.lex_quiet0 rfl rfl rfl ?_; intro K hK; go_big_quiet_op; go_big_quiet_on) | (refine Mix.lex_quietG rfl rfl rfl (by with_reducible rfl) rfl rfl ?_; intro K hK; go_big_quiet_op; go_big_quiet_on) | ((first | refine Mix.lex_skipT rfl rfl rfl (by with_reducible rfl) ?_ | refine Mix.lex_skipF rfl rfl rfl (by with_reducible rfl) ?_ | refine Mix.lex_skipU rfl rfl rfl (by with_reducible rfl) ?_); simp only [Act.put, List.setIfInBounds_toArray, List.set_cons_succ, List.set_cons_zero]) | (refine Mix.lex_part rfl rfl rfl rfl (fun hq => ?_) (fun hq => ?_) <;> (fail_if_success (guard_hyp hq :ₛ true = true)) <;> (fail_if_success (guard_hyp hq :ₛ false = false)) <;> first | (exfalso; cases hq; done) | (exfalso; simp only [decide_eq_true_eq, decide_eq_false_iff_not, beq_iff_eq, beq_eq_false_iff_ne, ne_eq, Int.not_lt, Int.not_le] at hq; omega) | simp only [Act.put, List.setIfInBounds_toArray, List.set_cons_succ, List.set_cons_zero]))); all_goals (refine Mix.lex_nil ?_)))
      refine HOw.out.mono ?_
      rintro e u ⟨A2, c2, rfl, hF2⟩
      have F2 := Lib.hid (hF2.from (HX0.out.then_ext ξ.h))
      obtain ⟨ξ3, rfl⟩ : ∃ ξ : X w0 No, u = ξ.v := ⟨⟨u, ξ.h.then_ext hF2.ext⟩, rfl⟩
      clear hF2 HOw
      generalize o'.own = ys at F2 hol HA2
      by_cases hlt2 : ys.length < g.targets.length
      · rw [if_pos hlt2] at HA2
        go_wp2_with (first | (refine Mix.wpList_guarded rfl ?_; (repeat' (first | (refine Mix.lex_quiet0 rfl rfl rfl ?_; intro K hK; go_big_quiet_op; go_big_quiet_on) | (refine Mix.lex_quietG rfl rfl rfl (by with_reducible rfl) rfl rfl ?_; intro K hK; go_big_quiet_op; go_big_quiet_on) | ((first | refine Mix.lex_skipT rfl rfl rfl (by with_reducible rfl) ?_ | refine Mix.lex_skipF rfl rfl rfl (by with_reducible rfl) ?_ | refine Mix.lex_skipU rfl rfl rfl (by with_reducible rfl) ?_); simp only [Act.put, List.setIfInBounds_toArray, List.set_cons_succ, List.set_cons_zero]) | (refine Mix.lex_part rfl rfl rfl rfl (fun hq => ?_) (fun hq => ?_) <;> (fail_if_success (guard_hyp hq :ₛ true = true)) <;> (fail_if_success (guard_hyp hq :ₛ false = false)) <;> first | (exfalso; cases hq; done) | (exfalso; simp only [decide_eq_true_eq, decide_eq_false_iff_not, beq_iff_eq, beq_eq_false_iff_ne, ne_eq, Int.not_lt, Int.not_le] at hq; omega) | simp only [Act.put, List.setIfInBounds_toArray, List.set_cons_succ, List.set_cons_zero]))); all_goals (refine Mix.lex_nil ?_)) | (refine Mix.wp_still (by kernel_rfl) (by kernel_rfl) ?_; (repeat' (first | (refine Mix.lex_quiet0 rfl rfl rfl ?_; intro K hK; go_big_quiet_op; go_big_quiet_on) | (refine Mix.lex_quietG rfl rfl rfl (by with_reducible rfl) rfl rfl ?_; intro K hK; go_big_quiet_op; go_big_quiet_on) | ((first | refine Mix.lex_skipT rfl rfl rfl (by with_reducible rfl) ?_ | refine Mix.lex_skipF rfl rfl rfl (by with_reducible rfl) ?_ | refine Mix.lex_skipU rfl rfl rfl (by with_reducible rfl) ?_); simp only [Act.put, List.setIfInBounds_toArray, List.set_cons_succ, List.set_cons_zero]) | (refine Mix.lex_part rfl rfl rfl rfl (fun hq => ?_) (fun hq => ?_) <;> (fail_if_success (guard_hyp hq :ₛ true = true)) <;> (fail_if_success (guard_hyp hq :ₛ false = false)) <;> first | (exfalso; cases hq; done) | (exfalso; simp only [decide_eq_true_eq, decide_eq_false_iff_not, beq_iff_eq, beq_eq_false_iff_ne, ne_eq, Int.not_lt, Int.not_le] at hq; omega) | simp only [Act.put, List.setIfInBounds_toArray, List.set_cons_succ, List.set_cons_zero]))); all_goals (refine Mix.lex_nil ?_)))
        go_ret2
        rw [HA2.out]
        exact ⟨none, 0, rfl, Fresh.nil _ _ _ _ F2.out.ext⟩
      · rw [if_neg hlt2] at HA2
        go_wp2_with (first | (refine Mix.wpList_guarded rfl ?_; (repeat' (first | (refine Mix.lex_quiet0 rfl rfl rfl ?_; intro K hK; go_big_quiet_op; go_big_quiet_on) | (refine Mix.lex_quietG rfl rfl rfl (by with_reducible rfl) rfl rfl ?_; intro K hK; go_big_quiet_op; go_big_quiet_on) | ((first | refine Mix.lex_skipT rfl rfl rfl (by with_reducible rfl) ?_ | refine Mix.lex_skipF rfl rfl rfl (by with_reducible rfl) ?_ | refine Mix.lex_skipU rfl rfl rfl (by with_reducible rfl) ?_); simp only [Act.put, List.setIfInBounds_toArray, List.set_cons_succ, List.set_cons_zero]) | (refine Mix.lex_part rfl rfl rfl rfl (fun hq => ?_) (fun hq => ?_) <;> (fail_if_success (guard_hyp hq :ₛ true = true)) <;> (fail_if_success (guard_hyp hq :ₛ false = false)) <;> first | (exfalso; cases hq; done) | (exfalso; simp only [decide_eq_true_eq, decide_eq_false_iff_not, beq_iff_eq, beq_eq_false_iff_ne, ne_eq, Int.not_lt, Int.not_le] at hq; omega) | simp only [Act.put, List.setIfInBounds_toArray, List.set_cons_succ, List.set_cons_zero]))); all_goals (refine Mix.lex_nil ?_)) | (refine Mix.wp_still (by kernel_rfl) (by kernel_rfl) ?_; (repeat' (first | (refine Mix.lex_quiet0 rfl rfl rfl ?_; intro K hK; go_big_quiet_op; go_big_quiet_on) | (refine Mix.lex_quietG rfl rfl rfl (by with_reducible rfl) rfl rfl ?_; intro K hK; go_big_quiet_op; go_big_quiet_on) | ((first | refine Mix.lex_skipT rfl rfl rfl (by with_reducible rfl) ?_ | refine Mix.lex_skipF rfl rfl rfl (by with_reducible rfl) ?_ | refine Mix.lex_skipU rfl rfl rfl (by with_reducible rfl) ?_); simp only [Act.put, List.setIfInBounds_toArray, List.set_cons_succ, List.set_cons_zero]) | (refine Mix.lex_part rfl rfl rfl rfl (fun hq => ?_) (fun hq => ?_) <;> (fail_if_success (guard_hyp hq :ₛ true = true)) <;> (fail_if_success (guard_hyp hq :ₛ false = false)) <;> first | (exfalso; cases hq; done) | (exfalso; simp only [decide_eq_true_eq, decide_eq_false_iff_not, beq_iff_eq, beq_eq_false_iff_ne, ne_eq, Int.not_lt, Int.not_le] at hq; omega) | simp only [Act.put, List.setIfInBounds_toArray, List.set_cons_succ, List.set_cons_zero]))); all_goals (refine Mix.lex_nil ?_)))
        go_ret2
        rw [HA2.out]
        exact ⟨A2, c2, rfl, F2.out⟩
theorem All_c {w : World} (hm : Ml w) {A : Option Addr} {n c : Nat} {xs : List File} (h1 : SlR fileF w A n xs) (hn : n ≤ 10000) (hr : Rise fk xs) (hxt : ∀ f ∈ xs, f.2.length ≤ 1000) {v : GrpV} {g : Grp} (hg : GrpR w v g) (hl : g.Lim) :
    Calls Tryd.prog 10 #[.slice A n c, grpV v g] w fun e w' => ∃ A' c', e = .returned (.tuple #[.slice A' (allF xs g).1.length c', errV (allF xs g).2]) ∧ Fresh fileF 47 w w' A' c' (allF xs g).1 :=
  All_c' hm h1 hn hr (fun f hf => Nat.le_trans (hxt f hf) (by unfold maxLen; omega)) hg hl (.inl hxt)
end Go.Proofs.YtnplipljfmnjgaaDoor
