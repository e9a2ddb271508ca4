/- An error and a number: the same? -/
import Derived.Test.YtlfiobciahnapaaDeeds2
import Derived.Test.YtlfiobciahnapaaSaid
import Derived.Test.YtlfiobciahnapaaDisk6
namespace Go.Proofs.Ytlfiobciahnapaa
open Go Go.RowKit
theorem Write_falls {w : World} {r : DkR} {d : Dk} (h : DiskAt w r d) (k : Nat) (hk : k < d.now.length) (s : Str) (hs : s.length ≤ 340) (hf : d.falls = true) :
    Calls Try.prog 8 #[pt r.g, .int .i64 k, S s] w (DkRes w r d.stepped (E 11)) := by
  have c1 := h.cs.cell 1
  simp only [List.getElem?_toArray, List.getElem?_cons_succ, List.getElem?_cons_zero] at c1
  have hl := h.fine.most
  have hst := step_c h
  rw [hf] at hst
  have HST := Lib.hid hst
  clear h hst hf
  go_enter Try.func8, Try.ntmps8
  go_wp2_with (first | (refine Mix.wpList_guarded rfl ?_; (repeat' (first | (refine Mix.lex_quiet0 rfl rfl rfl ?_; intro K hK; go_big_quiet_op; go_big_quiet_on) | (refine Mix.lex_quietG rfl rfl rfl (by with_reducible rfl) rfl rfl ?_; intro K hK; go_big_quiet_op; go_big_quiet_on) | ((first | refine Mix.lex_skipT rfl rfl rfl (by with_reducible rfl) ?_ | refine Mix.lex_skipF rfl rfl rfl (by with_reducible rfl) ?_ | refine Mix.lex_skipU rfl rfl rfl (by with_reducible rfl) ?_); simp only [Act.put, List.setIfInBounds_toArray, List.set_cons_succ, List.set_cons_zero]) | (refine Mix.lex_part rfl rfl rfl rfl (fun hq => ?_) (fun hq => ?_) <;> (fail_if_success (guard_hyp hq :ₛ true = true)) <;> (fail_if_success (guard_hyp hq :ₛ false = false)) <;> first | (exfalso; cases hq; done) | (exfalso; simp only [decide_eq_true_eq, decide_eq_false_iff_not, beq_iff_eq, beq_eq_false_iff_ne, ne_eq, Int.not_lt, Int.not_le] at hq; omega) | simp only [Act.put, List.setIfInBounds_toArray, List.set_cons_succ, List.set_cons_zero]))); all_goals (refine Mix.lex_nil ?_)) | (refine Mix.wp_still (by kernel_rfl) (by kernel_rfl) ?_; (repeat' (first | (refine Mix.lex_quiet0 rfl rfl rfl ?_; intro K hK; go_big_quiet_op; go_big_quiet_on) | (refine Mix.lex_quietG rfl rfl rfl (by with_reducible rfl) rfl rfl ?_; intro K hK; go_big_quiet_op; go_big_quiet_on) | ((first | refine Mix.lex_skipT rfl rfl rfl (by with_reducible rfl) ?_ | refine Mix.lex_skipF rfl rfl rfl (by with_reducible rfl) ?_ | refine Mix.lex_skipU rfl rfl rfl (by with_reducible rfl) ?_); simp only [Act.put, List.setIfInBounds_toArray, List.set_cons_succ, List.set_cons_zero]) | (refine Mix.lex_part rfl rfl rfl rfl (fun hq => ?_) (fun hq => ?_) <;> (fail_if_success (guard_hyp hq :ₛ true = true)) <;> (fail_if_success (guard_hyp hq :ₛ false = false)) <;> first | (exfalso; cases hq; done) | (exfalso; simp only [decide_eq_true_eq, decide_eq_false_iff_not, beq_iff_eq, beq_eq_false_iff_ne, ne_eq, Int.not_lt, Int.not_le] at hq; omega) | simp only [Act.put, List.setIfInBounds_toArray, List.set_cons_succ, List.set_cons_zero]))); all_goals (refine Mix.lex_nil ?_)))
  all_goals try (exfalso; simp only [decide_eq_true_eq, decide_eq_false_iff_not, beq_iff_eq, beq_eq_false_iff_ne, ne_eq, Int.not_lt, Int.not_le, Bool.not_eq_true, Bool.not_eq_false, Bool.or_eq_true, Bool.or_eq_false_iff, Bool.and_eq_true, Bool.and_eq_false_iff, Bool.not_eq_eq_eq_not, Bool.not_true, Bool.not_false] at *; omega)
  refine HST.out.mono ?_
  rintro e w1 ⟨rfl, h1, hx1⟩
  have H1 := Lib.hid h1
  clear h1
  simp only [if_true]
  go_wp2
  go_ret
  exact ⟨rfl, r, H1.out, rfl, hx1.weak fun b _ e => .inl e, fun b hb => .inl hb⟩
/-- What a deed comes to: the disk behind it, the number of its error. -/
def Dk.bad (d : Dk) (i : Int) (s : Str) : Bool := decide (i < 0 ∨ (d.now.length : Int) ≤ i ∨ 340 < s.length)
def Dk.wr (d : Dk) (i : Int) (s : Str) : Dk := if d.bad i s then d else if d.falls then d.stepped else d.stepped.written i.toNat s
def Dk.wrF (d : Dk) (i : Int) (s : Str) : Int := if d.bad i s then 1 else if d.falls then 11 else 0
def Dk.fl (d : Dk) : Dk := if d.falls then d.stepped else d.stepped.flushed
def Dk.flF (d : Dk) : Int := if d.falls then 11 else 0
def Dk.rd (d : Dk) (i : Int) : Str := if d.down then [] else if i < 0 ∨ (d.now.length : Int) ≤ i then [] else d.now.getD i.toNat []
def Dk.rdF (d : Dk) (i : Int) : Int := if d.down then 11 else if i < 0 ∨ (d.now.length : Int) ≤ i then 1 else 0
theorem DkRes.of_ext {w w' : World} {r : DkR} {d : Dk} {e : Ending} {v : Value} (h : DiskAt w r d) (he : e = .returned v) (hx : Ext w w') : DkRes w r d v e w' :=
  ⟨he, r, h.ext hx, rfl, hx.weak fun _ _ h => h.elim, fun _ h => .inl h⟩
theorem Write_all {w : World} {r : DkR} {d : Dk} (h : DiskAt w r d) (i : Int) (s : Str) (hs : s.length ≤ 1000000) (hw : d.wait.length ≤ 1000000) :
    Calls Try.prog 8 #[pt r.g, .int .i64 i, S s] w (DkRes w r (d.wr i s) (errV (d.wrF i s))) := by
  unfold Dk.wr Dk.wrF Dk.bad
  by_cases hb : i < 0 ∨ (d.now.length : Int) ≤ i ∨ 340 < s.length
  · simp only [hb, decide_true, if_true]
    refine (Write_bad h i s hs hb).mono ?_
    rintro e w' ⟨rfl, hx⟩
    exact DkRes.of_ext h rfl hx
  · obtain ⟨k, rfl⟩ : ∃ k : Nat, i = k := ⟨i.toNat, by omega⟩
    simp only [hb, decide_false, Bool.false_eq_true, if_false, Int.toNat_natCast]
    cases hf : d.falls with
    | true => exact Write_falls h k (by omega) s (by omega) hf
    | false => exact Write_ok h k (by omega) s (by omega) hf hw
theorem Flush_all {w : World} {r : DkR} {d : Dk} (h : DiskAt w r d) :
    Calls Try.prog 39 #[pt r.g] w (DkRes w r d.fl (errV d.flF)) := by
  unfold Dk.fl Dk.flF
  cases hf : d.falls with
  | true => exact Flush_falls h hf
  | false => exact Flush_ok h hf
theorem Read_all {w : World} {r : DkR} {d : Dk} (h : DiskAt w r d) (i : Int) :
    Calls Try.prog 12 #[pt r.g, .int .i64 i] w fun e w' => e = .returned (.tuple #[S (d.rd i), errV (d.rdF i)]) ∧ Ext w w' := by
  refine (Read_c h i).mono ?_
  rintro e w' ⟨rfl, hx⟩
  refine ⟨?_, hx⟩
  unfold Dk.rd Dk.rdF
  split
  · rfl
  · split <;> rfl
theorem Dk.wrF_nonneg (d : Dk) (i : Int) (s : Str) : 0 ≤ d.wrF i s := by unfold Dk.wrF; split <;> (try split) <;> omega
theorem Dk.flF_nonneg (d : Dk) : 0 ≤ d.flF := by unfold Dk.flF; split <;> omega
theorem Dk.rdF_nonneg (d : Dk) (i : Int) : 0 ≤ d.rdF i := by unfold Dk.rdF; split <;> (try split) <;> omega
end Go.Proofs.Ytlfiobciahnapaa
