/- An error and a number: the same? -/
import Derived.Test.YtdiablabpaankaaDeeds2
import Derived.Test.YtdiablabpaankaaDisk6
import Derived.Test.YtdiablabpaankaaRef5
namespace Go.Proofs.Ytdiablabpaankaa
open Go Go.RowKit
/-- The error value of a number. -/
def errV (n : Int) : Value := if n = 0 then .nilIface else E n
theorem errV_zero : errV 0 = .nilIface := rfl
theorem errV_pos {n : Int} (h : n ≠ 0) : errV n = E n := if_neg h
theorem same_nil (f : Int) (w : World) :
    Calls Try.prog 9 #[.nilIface, .int .i64 f] w fun e w' => e = .returned (.bool (decide (f = 0))) ∧ Ext w w' := by
  go_enter Try.func9, Try.ntmps9
  go_wp2_with (first | (refine Mix.wpList_guarded rfl ?_; (repeat' (first | (refine Mix.lex_quiet0 rfl rfl rfl ?_; intro K hK; go_big_quiet_op; go_big_quiet_on) | (refine Mix.lex_quietG rfl rfl rfl (by with_reducible rfl) rfl rfl ?_; intro K hK; go_big_quiet_op; go_big_quiet_on) | ((first | refine Mix.lex_skipT rfl rfl rfl (by with_reducible rfl) ?_ | refine Mix.lex_skipF rfl rfl rfl (by with_reducible rfl) ?_ | refine Mix.lex_skipU rfl rfl rfl (by with_reducible rfl) ?_); simp only [Act.put, List.setIfInBounds_toArray, List.set_cons_succ, List.set_cons_zero]) | (refine Mix.lex_part rfl rfl rfl rfl (fun hq => ?_) (fun hq => ?_) <;> (fail_if_success (guard_hyp hq :ₛ true = true)) <;> (fail_if_success (guard_hyp hq :ₛ false = false)) <;> first | (exfalso; cases hq; done) | (exfalso; simp only [decide_eq_true_eq, decide_eq_false_iff_not, beq_iff_eq, beq_eq_false_iff_ne, ne_eq, Int.not_lt, Int.not_le] at hq; omega) | simp only [Act.put, List.setIfInBounds_toArray, List.set_cons_succ, List.set_cons_zero]))); all_goals (refine Mix.lex_nil ?_)) | (refine Mix.wp_still (by kernel_rfl) (by kernel_rfl) ?_; (repeat' (first | (refine Mix.lex_quiet0 rfl rfl rfl ?_; intro K hK; go_big_quiet_op; go_big_quiet_on) | (refine Mix.lex_quietG rfl rfl rfl (by with_reducible rfl) rfl rfl ?_; intro K hK; go_big_quiet_op; go_big_quiet_on) | ((first | refine Mix.lex_skipT rfl rfl rfl (by with_reducible rfl) ?_ | refine Mix.lex_skipF rfl rfl rfl (by with_reducible rfl) ?_ | refine Mix.lex_skipU rfl rfl rfl (by with_reducible rfl) ?_); simp only [Act.put, List.setIfInBounds_toArray, List.set_cons_succ, List.set_cons_zero]) | (refine Mix.lex_part rfl rfl rfl rfl (fun hq => ?_) (fun hq => ?_) <;> (fail_if_success (guard_hyp hq :ₛ true = true)) <;> (fail_if_success (guard_hyp hq :ₛ false = false)) <;> first | (exfalso; cases hq; done) | (exfalso; simp only [decide_eq_true_eq, decide_eq_false_iff_not, beq_iff_eq, beq_eq_false_iff_ne, ne_eq, Int.not_lt, Int.not_le] at hq; omega) | simp only [Act.put, List.setIfInBounds_toArray, List.set_cons_succ, List.set_cons_zero]))); all_goals (refine Mix.lex_nil ?_)))
  go_ret
  exact ⟨rfl, Only.refl _ _⟩
theorem as_E (n : Int) (xT : TypeId) (w : World) : (Instr.typeAssert (E n) xT 56 true).run Try.prog w = .ok (.tuple #[.int .i64 n, .bool true]) w := by
  unfold Instr.typeAssert
  rw [Sem.run_bind, run_underlying Try.underlying56]
  simp [Result.andThen, Sem.run_pure, E]
theorem same_E (n f : Int) (w : World) :
    Calls Try.prog 9 #[E n, .int .i64 f] w fun e w' => e = .returned (.bool (decide (0 < f) && decide (n = f))) ∧ Ext w w' := by
  have hE := as_E n
  go_enter Try.func9, Try.ntmps9
  go_wp2_with (first | (refine Mix.wpList_guarded rfl ?_; (repeat' (first | (refine Mix.lex_quiet0 rfl rfl rfl ?_; intro K hK; go_big_quiet_op; go_big_quiet_on) | (refine Mix.lex_quietG rfl rfl rfl (by with_reducible rfl) rfl rfl ?_; intro K hK; go_big_quiet_op; go_big_quiet_on) | ((first | refine Mix.lex_skipT rfl rfl rfl (by with_reducible rfl) ?_ | refine Mix.lex_skipF rfl rfl rfl (by with_reducible rfl) ?_ | refine Mix.lex_skipU rfl rfl rfl (by with_reducible rfl) ?_); simp only [Act.put, List.setIfInBounds_toArray, List.set_cons_succ, List.set_cons_zero]) | (refine Mix.lex_part rfl rfl rfl rfl (fun hq => ?_) (fun hq => ?_) <;> (fail_if_success (guard_hyp hq :ₛ true = true)) <;> (fail_if_success (guard_hyp hq :ₛ false = false)) <;> first | (exfalso; cases hq; done) | (exfalso; simp only [decide_eq_true_eq, decide_eq_false_iff_not, beq_iff_eq, beq_eq_false_iff_ne, ne_eq, Int.not_lt, Int.not_le] at hq; omega) | simp only [Act.put, List.setIfInBounds_toArray, List.set_cons_succ, List.set_cons_zero]))); all_goals (refine Mix.lex_nil ?_)) | (refine Mix.wp_still (by kernel_rfl) (by kernel_rfl) ?_; (repeat' (first | (refine Mix.lex_quiet0 rfl rfl rfl ?_; intro K hK; go_big_quiet_op; go_big_quiet_on) | (refine Mix.lex_quietG rfl rfl rfl (by with_reducible rfl) rfl rfl ?_; intro K hK; go_big_quiet_op; go_big_quiet_on) | ((first | refine Mix.lex_skipT rfl rfl rfl (by with_reducible rfl) ?_ | refine Mix.lex_skipF rfl rfl rfl (by with_reducible rfl) ?_ | refine Mix.lex_skipU rfl rfl rfl (by with_reducible rfl) ?_); simp only [Act.put, List.setIfInBounds_toArray, List.set_cons_succ, List.set_cons_zero]) | (refine Mix.lex_part rfl rfl rfl rfl (fun hq => ?_) (fun hq => ?_) <;> (fail_if_success (guard_hyp hq :ₛ true = true)) <;> (fail_if_success (guard_hyp hq :ₛ false = false)) <;> first | (exfalso; cases hq; done) | (exfalso; simp only [decide_eq_true_eq, decide_eq_false_iff_not, beq_iff_eq, beq_eq_false_iff_ne, ne_eq, Int.not_lt, Int.not_le] at hq; omega) | simp only [Act.put, List.setIfInBounds_toArray, List.set_cons_succ, List.set_cons_zero]))); all_goals (refine Mix.lex_nil ?_)))
  all_goals (go_ret; refine ⟨?_, Only.refl _ _⟩)
  all_goals refine ret_bool ?_
  · rw [hq]; rfl
  · rw [hq]; simp
theorem same_c (n f : Int) (hn : 0 ≤ n) (w : World) :
    Calls Try.prog 9 #[errV n, .int .i64 f] w fun e w' => e = .returned (.bool (decide (n = f))) ∧ Ext w w' := by
  by_cases h : n = 0
  · subst h
    refine (same_nil f w).mono ?_
    rintro e w' ⟨rfl, hx⟩
    exact ⟨by congr 2; simp [eq_comm], hx⟩
  · rw [errV_pos h]
    refine (same_E n f w).mono ?_
    rintro e w' ⟨rfl, hx⟩
    refine ⟨?_, hx⟩
    congr 2
    by_cases hf : n = f
    · subst hf; simp; omega
    · simp [hf]
theorem Write_falls {w : World} {r : DkR} {d : Dk} (h : DiskAt w r d) (k : Nat) (hk : k < d.now.length) (s : Str) (hs : s.length ≤ 340) (hf : d.falls = true) :
    Calls Try.prog 11 #[pt r.g, .int .i64 k, S s] w (DkRes w r d.stepped (E 11)) := by
  have c1 := h.cs.cell 1
  simp only [List.getElem?_toArray, List.getElem?_cons_succ, List.getElem?_cons_zero] at c1
  have hl := h.fine.most
  have hst := step_c h
  rw [hf] at hst
  have HST := Lib.hid hst
  clear h hst hf
  go_enter Try.func11, Try.ntmps11
  go_wp2_with (first | (refine Mix.wpList_guarded rfl ?_; (repeat' (first | (refine Mix.lex_quiet0 rfl rfl rfl ?_; intro K hK; go_big_quiet_op; go_big_quiet_on) | (refine Mix.lex_quietG rfl rfl rfl (by with_reducible rfl) rfl rfl ?_; intro K hK; go_big_quiet_op; go_big_quiet_on) | ((first | refine Mix.lex_skipT rfl rfl rfl (by with_reducible rfl) ?_ | refine Mix.lex_skipF rfl rfl rfl (by with_reducible rfl) ?_ | refine Mix.lex_skipU rfl rfl rfl (by with_reducible rfl) ?_); simp only [Act.put, List.setIfInBounds_toArray, List.set_cons_succ, List.set_cons_zero]) | (refine Mix.lex_part rfl rfl rfl rfl (fun hq => ?_) (fun hq => ?_) <;> (fail_if_success (guard_hyp hq :ₛ true = true)) <;> (fail_if_success (guard_hyp hq :ₛ false = false)) <;> first | (exfalso; cases hq; done) | (exfalso; simp only [decide_eq_true_eq, decide_eq_false_iff_not, beq_iff_eq, beq_eq_false_iff_ne, ne_eq, Int.not_lt, Int.not_le] at hq; omega) | simp only [Act.put, List.setIfInBounds_toArray, List.set_cons_succ, List.set_cons_zero]))); all_goals (refine Mix.lex_nil ?_)) | (refine Mix.wp_still (by kernel_rfl) (by kernel_rfl) ?_; (repeat' (first | (refine Mix.lex_quiet0 rfl rfl rfl ?_; intro K hK; go_big_quiet_op; go_big_quiet_on) | (refine Mix.lex_quietG rfl rfl rfl (by with_reducible rfl) rfl rfl ?_; intro K hK; go_big_quiet_op; go_big_quiet_on) | ((first | refine Mix.lex_skipT rfl rfl rfl (by with_reducible rfl) ?_ | refine Mix.lex_skipF rfl rfl rfl (by with_reducible rfl) ?_ | refine Mix.lex_skipU rfl rfl rfl (by with_reducible rfl) ?_); simp only [Act.put, List.setIfInBounds_toArray, List.set_cons_succ, List.set_cons_zero]) | (refine Mix.lex_part rfl rfl rfl rfl (fun hq => ?_) (fun hq => ?_) <;> (fail_if_success (guard_hyp hq :ₛ true = true)) <;> (fail_if_success (guard_hyp hq :ₛ false = false)) <;> first | (exfalso; cases hq; done) | (exfalso; simp only [decide_eq_true_eq, decide_eq_false_iff_not, beq_iff_eq, beq_eq_false_iff_ne, ne_eq, Int.not_lt, Int.not_le] at hq; omega) | simp only [Act.put, List.setIfInBounds_toArray, List.set_cons_succ, List.set_cons_zero]))); all_goals (refine Mix.lex_nil ?_)))
  all_goals try (exfalso; simp only [decide_eq_true_eq, decide_eq_false_iff_not, beq_iff_eq, beq_eq_false_iff_ne, ne_eq, Int.not_lt, Int.not_le, Bool.not_eq_true, Bool.not_eq_false, Bool.or_eq_true, Bool.or_eq_false_iff, Bool.and_eq_true, Bool.and_eq_false_iff, Bool.not_eq_eq_eq_not, Bool.not_true, Bool.not_false] at *; omega)
  refine HST.out.mono ?_
  rintro e w1 ⟨rfl, h1, hx1⟩
  have H1 := Lib.hid h1
  clear h1
  simp only [if_true]
  go_wp2
  go_ret
  exact ⟨rfl, r, H1.out, rfl, hx1.weak fun b _ e => .inl e, fun b hb => .inl hb⟩
/-- What a deed comes to: the disk behind it, the number of its error. -/
def Dk.bad (d : Dk) (i : Int) (s : Str) : Bool := decide (i < 0 ∨ (d.now.length : Int) ≤ i ∨ 340 < s.length)
def Dk.wr (d : Dk) (i : Int) (s : Str) : Dk := if d.bad i s then d else if d.falls then d.stepped else d.stepped.written i.toNat s
def Dk.wrF (d : Dk) (i : Int) (s : Str) : Int := if d.bad i s then 1 else if d.falls then 11 else 0
def Dk.fl (d : Dk) : Dk := if d.falls then d.stepped else d.stepped.flushed
def Dk.flF (d : Dk) : Int := if d.falls then 11 else 0
def Dk.rd (d : Dk) (i : Int) : Str := if d.down then [] else if i < 0 ∨ (d.now.length : Int) ≤ i then [] else d.now.getD i.toNat []
def Dk.rdF (d : Dk) (i : Int) : Int := if d.down then 11 else if i < 0 ∨ (d.now.length : Int) ≤ i then 1 else 0
theorem DkRes.of_ext {w w' : World} {r : DkR} {d : Dk} {e : Ending} {v : Value} (h : DiskAt w r d) (he : e = .returned v) (hx : Ext w w') : DkRes w r d v e w' :=
  ⟨he, r, h.ext hx, rfl, hx.weak fun _ _ h => h.elim, fun _ h => .inl h⟩
theorem RfRes.of_ext {w w' : World} {r : DkR} {d : Dk} {e : Ending} {v : Value} (h : RefAt w r d) (he : e = .returned v) (hx : Ext w w') : RfRes w r d v e w' :=
  ⟨he, r, h.ext hx, rfl, hx.weak fun _ _ h => h.elim, fun _ h => .inl h⟩
theorem Write_all {w : World} {r : DkR} {d : Dk} (h : DiskAt w r d) (i : Int) (s : Str) (hs : s.length ≤ 1000000) (hw : d.wait.length ≤ 1000000) :
    Calls Try.prog 11 #[pt r.g, .int .i64 i, S s] w (DkRes w r (d.wr i s) (errV (d.wrF i s))) := by
  unfold Dk.wr Dk.wrF Dk.bad
  by_cases hb : i < 0 ∨ (d.now.length : Int) ≤ i ∨ 340 < s.length
  · simp only [hb, decide_true, if_true]
    refine (Write_bad h i s hs hb).mono ?_
    rintro e w' ⟨rfl, hx⟩
    exact DkRes.of_ext h rfl hx
  · obtain ⟨k, rfl⟩ : ∃ k : Nat, i = k := ⟨i.toNat, by omega⟩
    simp only [hb, decide_false, Bool.false_eq_true, if_false, Int.toNat_natCast]
    cases hf : d.falls with
    | true => exact Write_falls h k (by omega) s (by omega) hf
    | false => exact Write_ok h k (by omega) s (by omega) hf hw
theorem RWrite_all {w : World} {r : DkR} {d : Dk} (h : RefAt w r d) (i : Int) (s : Str) (hs : s.length ≤ 1000000) (hw : d.wait.length ≤ 1000000) :
    Calls Try.prog 12 #[pt r.g, .int .i64 i, S s] w (RfRes w r (d.wr i s) (.int .i64 (d.wrF i s))) := by
  unfold Dk.wr Dk.wrF Dk.bad
  by_cases hb : i < 0 ∨ (d.now.length : Int) ≤ i ∨ 340 < s.length
  · simp only [hb, decide_true, if_true]
    refine (RWrite_bad h i s hs hb).mono ?_
    rintro e w' ⟨rfl, hx⟩
    exact RfRes.of_ext h rfl hx
  · obtain ⟨k, rfl⟩ : ∃ k : Nat, i = k := ⟨i.toNat, by omega⟩
    simp only [hb, decide_false, Bool.false_eq_true, if_false, Int.toNat_natCast]
    cases hf : d.falls with
    | true => simpa using RWrite_falls h k (by omega) s (by omega) hf
    | false => simpa using RWrite_ok h k (by omega) s (by omega) hf hw
theorem Flush_all {w : World} {r : DkR} {d : Dk} (h : DiskAt w r d) :
    Calls Try.prog 15 #[pt r.g] w (DkRes w r d.fl (errV d.flF)) := by
  unfold Dk.fl Dk.flF
  cases hf : d.falls with
  | true => exact Flush_falls h hf
  | false => exact Flush_ok h hf
theorem RFlush_all {w : World} {r : DkR} {d : Dk} (h : RefAt w r d) :
    Calls Try.prog 16 #[pt r.g] w (RfRes w r d.fl (.int .i64 d.flF)) := by
  unfold Dk.fl Dk.flF
  cases hf : d.falls with
  | true => exact RFlush_falls h hf
  | false => exact RFlush_ok h hf
theorem Read_all {w : World} {r : DkR} {d : Dk} (h : DiskAt w r d) (i : Int) :
    Calls Try.prog 13 #[pt r.g, .int .i64 i] w fun e w' => e = .returned (.tuple #[S (d.rd i), errV (d.rdF i)]) ∧ Ext w w' := by
  refine (Read_c h i).mono ?_
  rintro e w' ⟨rfl, hx⟩
  refine ⟨?_, hx⟩
  unfold Dk.rd Dk.rdF
  split
  · rfl
  · split <;> rfl
theorem RRead_all {w : World} {r : DkR} {d : Dk} (h : RefAt w r d) (i : Int) :
    Calls Try.prog 14 #[pt r.g, .int .i64 i] w fun e w' => e = .returned (.tuple #[S (d.rd i), .int .i64 (d.rdF i)]) ∧ Ext w w' := by
  refine (RRead_c h i).mono ?_
  rintro e w' ⟨rfl, hx⟩
  refine ⟨?_, hx⟩
  unfold Dk.rd Dk.rdF
  split
  · rfl
  · split <;> rfl
theorem Dk.wrF_nonneg (d : Dk) (i : Int) (s : Str) : 0 ≤ d.wrF i s := by unfold Dk.wrF; split <;> (try split) <;> omega
theorem Dk.flF_nonneg (d : Dk) : 0 ≤ d.flF := by unfold Dk.flF; split <;> omega
theorem Dk.rdF_nonneg (d : Dk) (i : Int) : 0 ≤ d.rdF i := by unfold Dk.rdF; split <;> (try split) <;> omega
/-- The two disks beside each other. -/
structure Pair (w v : World) (r q : DkR) (d m : Dk) : Prop where
  d : DiskAt v r d
  m : RefAt v q m
  ap : ∀ b, r.fp b → ¬ q.fp b
  f1 : ∀ b, r.fp b → w.heap.size ≤ b
  f2 : ∀ b, q.fp b → w.heap.size ≤ b
  ext : Ext w v
end Go.Proofs.Ytdiablabpaankaa
