/- The document's disk in memory, and what its methods do. -/
import Derived.Test.YtdiablabpaankaaDisk6
namespace Go.Proofs.Ytdiablabpaankaa
open Go Go.RowKit
structure RefAt (w : World) (r : DkR) (d : Dk) : Prop where
  cs : Cs w r.g 50 (r.cells d)
  kept : w.ownsRow 0 9 1 (.slice (some ⟨r.kg, 0, none⟩) d.now.length r.kc) d.now.length (d.kept.map S)
  now : w.ownsRow 0 9 1 (.slice (some ⟨r.ng, 0, none⟩) d.now.length r.nc) d.now.length (d.now.map S)
  wait : w.ownsRow 0 68 2 r.wv d.wait.length (d.wait.flatMap turnC)
  ne : r.kg ≠ r.ng
  fine : d.Fine
section
variable {w v : World} {r : DkR} {d : Dk} {F : Nat → Prop}
theorem RefAt.keep (h : RefAt w r d) (hx : Only F w v) (hn : ∀ b, r.fp b → ¬ F b) : RefAt v r d :=
  ⟨h.cs.keep hx (hn _ (.inl rfl)), own_keep h.kept hx (fun g hg => by simp [Value.ownBlock] at hg; subst hg; exact hn _ (.inr (.inl rfl))),
   own_keep h.now hx (fun g hg => by simp [Value.ownBlock] at hg; subst hg; exact hn _ (.inr (.inr (.inl rfl)))), own_keep h.wait hx (fun g hg => hn _ (.inr (.inr (.inr hg)))), h.ne, h.fine⟩
theorem RefAt.ext (h : RefAt w r d) (hx : Ext w v) : RefAt v r d := h.keep hx fun _ _ h => h
theorem RefAt.gk (h : RefAt w r d) : r.kg ≠ r.g := fun e => own_ne h.kept h.cs (by decide) (by rw [← e]; rfl)
theorem RefAt.gn (h : RefAt w r d) : r.ng ≠ r.g := fun e => own_ne h.now h.cs (by decide) (by rw [← e]; rfl)
theorem RefAt.gw (h : RefAt w r d) : r.wv.ownBlock ≠ some r.g := own_ne h.wait h.cs (by decide)
theorem RefAt.nowCell (h : RefAt w r d) {k : Nat} (hk : k < d.now.length) : w.cell? ⟨r.ng, k, none⟩ = some (S (d.now[k])) := by
  rw [h.now.cellAt k (by omega), List.getElem?_map, List.getElem?_eq_getElem hk]; rfl
end
def RfRes (w : World) (r : DkR) (d' : Dk) (v : Value) (e : Ending) (w' : World) : Prop :=
  e = .returned v ∧ ∃ r' : DkR, RefAt w' r' d' ∧ r'.g = r.g ∧ Only r.fp w w' ∧ ∀ b, r'.fp b → r.fp b ∨ w.heap.size ≤ b
theorem rturn_info : (Try.prog.info? 68).map (fun i => (i.zero, i.size, i.bytes)) = some (some (.agg #[.int .i64 0, S []]), 2, 24) := by kernel_rfl
theorem rturn_ty : Ety Try.prog 48 68 2 := Ety.mk' Try.underlying48 rturn_info rfl (by omega) (by omega)
@[go_sem] theorem rturn_build (a : Int) (b : ByteArray) (w : World) : (Instr.build 68 #[(0, .int .i64 a), (1, .string b)]).run Try.prog w = .ok (.agg #[.int .i64 a, .string b]) w := run_build w 68 _ _ (by kernel_rfl)
/-- The way in which a step ends. -/
def fallI (b : Bool) : Value := .int .i64 (if b then 11 else 0)
theorem rstep_c {w : World} {r : DkR} {d : Dk} (h : RefAt w r d) :
    Calls Try.prog 27 #[pt r.g] w fun e w' => e = .returned (fallI d.falls) ∧ RefAt w' r d.stepped ∧ Only (fun b => b = r.g) w w' := by
  have c3 := h.cs.cell 3; have c4 := h.cs.cell 4
  have f3 := h.cs.frozen 3; have f4 := h.cs.frozen 4
  simp only [List.getElem?_toArray, List.getElem?_cons_succ, List.getElem?_cons_zero] at c3 c4
  have hk := h.gk; have hn := h.gn; have hw := h.gw
  have lo := h.fine.lo; have hi := h.fine.hi
  have fine := h.fine.stepped
  have H := Lib.hid h
  obtain ⟨kept, now, wait, fuse, down⟩ := d
  simp only at c3 c4 lo hi
  have fin : ∀ (v : World) (d' : Dk), Cs v r.g 50 (r.cells d') → Only (fun b => b = r.g) w v → d'.kept = kept → d'.now = now → d'.wait = wait → d'.Fine → RefAt v r d' := by
    intro v d' hc hx e1 e2 e3 hf
    obtain ⟨k', n', w', f', dn'⟩ := d'
    simp only at e1 e2 e3
    subst e1; subst e2; subst e3
    exact ⟨hc, own_keep h.kept hx (fun g hg e => hk (by simp [Value.ownBlock] at hg; omega)), own_keep h.now hx (fun g hg e => hn (by simp [Value.ownBlock] at hg; omega)),
      own_keep h.wait hx (fun g hg e => hw (by rw [hg, e])), h.ne, hf⟩
  have FIN := Lib.hid fin
  have FINE := Lib.hid fine
  clear h fin fine
  cases down with
  | true =>
    go_enter Try.func27, Try.ntmps27
    go_wp2_with (first | (refine Mix.wpList_guarded rfl ?_; (repeat' (first | (refine Mix.lex_quiet0 rfl rfl rfl ?_; intro K hK; go_big_quiet_op; go_big_quiet_on) | (refine Mix.lex_quietG rfl rfl rfl (by with_reducible rfl) rfl rfl ?_; intro K hK; go_big_quiet_op; go_big_quiet_on) | ((first | refine Mix.lex_skipT rfl rfl rfl (by with_reducible rfl) ?_ | refine Mix.lex_skipF rfl rfl rfl (by with_reducible rfl) ?_ | refine Mix.lex_skipU rfl rfl rfl (by with_reducible rfl) ?_); simp only [Act.put, List.setIfInBounds_toArray, List.set_cons_succ, List.set_cons_zero]) | (refine Mix.lex_part rfl rfl rfl rfl (fun hq => ?_) (fun hq => ?_) <;> (fail_if_success (guard_hyp hq :ₛ true = true)) <;> (fail_if_success (guard_hyp hq :ₛ false = false)) <;> first | (exfalso; cases hq; done) | (exfalso; simp only [decide_eq_true_eq, decide_eq_false_iff_not, beq_iff_eq, beq_eq_false_iff_ne, ne_eq, Int.not_lt, Int.not_le] at hq; omega) | simp only [Act.put, List.setIfInBounds_toArray, List.set_cons_succ, List.set_cons_zero]))); all_goals (refine Mix.lex_nil ?_)) | (refine Mix.wp_still (by kernel_rfl) (by kernel_rfl) ?_; (repeat' (first | (refine Mix.lex_quiet0 rfl rfl rfl ?_; intro K hK; go_big_quiet_op; go_big_quiet_on) | (refine Mix.lex_quietG rfl rfl rfl (by with_reducible rfl) rfl rfl ?_; intro K hK; go_big_quiet_op; go_big_quiet_on) | ((first | refine Mix.lex_skipT rfl rfl rfl (by with_reducible rfl) ?_ | refine Mix.lex_skipF rfl rfl rfl (by with_reducible rfl) ?_ | refine Mix.lex_skipU rfl rfl rfl (by with_reducible rfl) ?_); simp only [Act.put, List.setIfInBounds_toArray, List.set_cons_succ, List.set_cons_zero]) | (refine Mix.lex_part rfl rfl rfl rfl (fun hq => ?_) (fun hq => ?_) <;> (fail_if_success (guard_hyp hq :ₛ true = true)) <;> (fail_if_success (guard_hyp hq :ₛ false = false)) <;> first | (exfalso; cases hq; done) | (exfalso; simp only [decide_eq_true_eq, decide_eq_false_iff_not, beq_iff_eq, beq_eq_false_iff_ne, ne_eq, Int.not_lt, Int.not_le] at hq; omega) | simp only [Act.put, List.setIfInBounds_toArray, List.set_cons_succ, List.set_cons_zero]))); all_goals (refine Mix.lex_nil ?_)))
    go_ret
    exact ⟨rfl, H.out, Only.refl _ _⟩
  | false =>
    by_cases h0 : fuse = 0
    · subst h0
      go_enter Try.func27, Try.ntmps27
      go_wp2_with (first | (refine Mix.wpList_guarded rfl ?_; (repeat' (first | (refine Mix.lex_quiet0 rfl rfl rfl ?_; intro K hK; go_big_quiet_op; go_big_quiet_on) | (refine Mix.lex_quietG rfl rfl rfl (by with_reducible rfl) rfl rfl ?_; intro K hK; go_big_quiet_op; go_big_quiet_on) | ((first | refine Mix.lex_skipT rfl rfl rfl (by with_reducible rfl) ?_ | refine Mix.lex_skipF rfl rfl rfl (by with_reducible rfl) ?_ | refine Mix.lex_skipU rfl rfl rfl (by with_reducible rfl) ?_); simp only [Act.put, List.setIfInBounds_toArray, List.set_cons_succ, List.set_cons_zero]) | (refine Mix.lex_part rfl rfl rfl rfl (fun hq => ?_) (fun hq => ?_) <;> (fail_if_success (guard_hyp hq :ₛ true = true)) <;> (fail_if_success (guard_hyp hq :ₛ false = false)) <;> first | (exfalso; cases hq; done) | (exfalso; simp only [decide_eq_true_eq, decide_eq_false_iff_not, beq_iff_eq, beq_eq_false_iff_ne, ne_eq, Int.not_lt, Int.not_le] at hq; omega) | simp only [Act.put, List.setIfInBounds_toArray, List.set_cons_succ, List.set_cons_zero]))); all_goals (refine Mix.lex_nil ?_)) | (refine Mix.wp_still (by kernel_rfl) (by kernel_rfl) ?_; (repeat' (first | (refine Mix.lex_quiet0 rfl rfl rfl ?_; intro K hK; go_big_quiet_op; go_big_quiet_on) | (refine Mix.lex_quietG rfl rfl rfl (by with_reducible rfl) rfl rfl ?_; intro K hK; go_big_quiet_op; go_big_quiet_on) | ((first | refine Mix.lex_skipT rfl rfl rfl (by with_reducible rfl) ?_ | refine Mix.lex_skipF rfl rfl rfl (by with_reducible rfl) ?_ | refine Mix.lex_skipU rfl rfl rfl (by with_reducible rfl) ?_); simp only [Act.put, List.setIfInBounds_toArray, List.set_cons_succ, List.set_cons_zero]) | (refine Mix.lex_part rfl rfl rfl rfl (fun hq => ?_) (fun hq => ?_) <;> (fail_if_success (guard_hyp hq :ₛ true = true)) <;> (fail_if_success (guard_hyp hq :ₛ false = false)) <;> first | (exfalso; cases hq; done) | (exfalso; simp only [decide_eq_true_eq, decide_eq_false_iff_not, beq_iff_eq, beq_eq_false_iff_ne, ne_eq, Int.not_lt, Int.not_le] at hq; omega) | simp only [Act.put, List.setIfInBounds_toArray, List.set_cons_succ, List.set_cons_zero]))); all_goals (refine Mix.lex_nil ?_)))
      go_ret
      have hC := (H.out.cs.set_ 4 (.bool true)).set_ 3 (.int .i64 (-1))
      simp only [List.setIfInBounds_toArray, List.set_cons_succ, List.set_cons_zero] at hC
      have hx := ((Only.refl (fun b => b = r.g) w).at_ 4 (.bool true)).at_ 3 (.int .i64 (-1))
      exact ⟨rfl, FIN.out _ _ hC hx rfl rfl rfl FINE.out, hx⟩
    · by_cases h1 : 0 < fuse
      · have hst : Dk.stepped ⟨kept, now, wait, fuse, false⟩ = ⟨kept, now, wait, fuse - 1, false⟩ := by
          simp only [Dk.stepped, h0, Bool.false_eq_true, if_false]
          rw [show max (fuse - 1) (-1) = fuse - 1 by omega]
        have HS := Lib.hid hst
        have hfl : Hid (Dk.falls ⟨kept, now, wait, fuse, false⟩ = false) := by simp [Hid, Dk.falls, h0]
        clear hst
        have h0' : (fuse == 0) = false := by simp [h0]
        go_enter Try.func27, Try.ntmps27
        go_wp2_with (first | (refine Mix.wpList_guarded rfl ?_; (repeat' (first | (refine Mix.lex_quiet0 rfl rfl rfl ?_; intro K hK; go_big_quiet_op; go_big_quiet_on) | (refine Mix.lex_quietG rfl rfl rfl (by with_reducible rfl) rfl rfl ?_; intro K hK; go_big_quiet_op; go_big_quiet_on) | ((first | refine Mix.lex_skipT rfl rfl rfl (by with_reducible rfl) ?_ | refine Mix.lex_skipF rfl rfl rfl (by with_reducible rfl) ?_ | refine Mix.lex_skipU rfl rfl rfl (by with_reducible rfl) ?_); simp only [Act.put, List.setIfInBounds_toArray, List.set_cons_succ, List.set_cons_zero]) | (refine Mix.lex_part rfl rfl rfl rfl (fun hq => ?_) (fun hq => ?_) <;> (fail_if_success (guard_hyp hq :ₛ true = true)) <;> (fail_if_success (guard_hyp hq :ₛ false = false)) <;> first | (exfalso; cases hq; done) | (exfalso; simp only [decide_eq_true_eq, decide_eq_false_iff_not, beq_iff_eq, beq_eq_false_iff_ne, ne_eq, Int.not_lt, Int.not_le] at hq; omega) | simp only [Act.put, List.setIfInBounds_toArray, List.set_cons_succ, List.set_cons_zero]))); all_goals (refine Mix.lex_nil ?_)) | (refine Mix.wp_still (by kernel_rfl) (by kernel_rfl) ?_; (repeat' (first | (refine Mix.lex_quiet0 rfl rfl rfl ?_; intro K hK; go_big_quiet_op; go_big_quiet_on) | (refine Mix.lex_quietG rfl rfl rfl (by with_reducible rfl) rfl rfl ?_; intro K hK; go_big_quiet_op; go_big_quiet_on) | ((first | refine Mix.lex_skipT rfl rfl rfl (by with_reducible rfl) ?_ | refine Mix.lex_skipF rfl rfl rfl (by with_reducible rfl) ?_ | refine Mix.lex_skipU rfl rfl rfl (by with_reducible rfl) ?_); simp only [Act.put, List.setIfInBounds_toArray, List.set_cons_succ, List.set_cons_zero]) | (refine Mix.lex_part rfl rfl rfl rfl (fun hq => ?_) (fun hq => ?_) <;> (fail_if_success (guard_hyp hq :ₛ true = true)) <;> (fail_if_success (guard_hyp hq :ₛ false = false)) <;> first | (exfalso; cases hq; done) | (exfalso; simp only [decide_eq_true_eq, decide_eq_false_iff_not, beq_iff_eq, beq_eq_false_iff_ne, ne_eq, Int.not_lt, Int.not_le] at hq; omega) | simp only [Act.put, List.setIfInBounds_toArray, List.set_cons_succ, List.set_cons_zero]))); all_goals (refine Mix.lex_nil ?_)))
        go_ret
        have hC := H.out.cs.set_ 3 (.int .i64 (fuse - 1))
        simp only [List.setIfInBounds_toArray, List.set_cons_succ, List.set_cons_zero] at hC
        have hx := (Only.refl (fun b => b = r.g) w).at_ 3 (.int .i64 (fuse - 1))
        have hf := FINE.out
        rw [HS.out] at hf ⊢
        rw [hfl.out]
        exact ⟨rfl, FIN.out _ _ hC hx rfl rfl rfl hf, hx⟩
      · have hf1 : fuse = -1 := by omega
        have hst : Dk.stepped ⟨kept, now, wait, fuse, false⟩ = ⟨kept, now, wait, fuse, false⟩ := by
          simp only [Dk.stepped, h0, Bool.false_eq_true, if_false]
          rw [show max (fuse - 1) (-1) = fuse by omega]
        have HS := Lib.hid hst
        have hfl : Hid (Dk.falls ⟨kept, now, wait, fuse, false⟩ = false) := by simp [Hid, Dk.falls, h0]
        clear hst hf1
        have h0' : (fuse == 0) = false := by simp [h0]
        go_enter Try.func27, Try.ntmps27
        go_wp2_with (first | (refine Mix.wpList_guarded rfl ?_; (repeat' (first | (refine Mix.lex_quiet0 rfl rfl rfl ?_; intro K hK; go_big_quiet_op; go_big_quiet_on) | (refine Mix.lex_quietG rfl rfl rfl (by with_reducible rfl) rfl rfl ?_; intro K hK; go_big_quiet_op; go_big_quiet_on) | ((first | refine Mix.lex_skipT rfl rfl rfl (by with_reducible rfl) ?_ | refine Mix.lex_skipF rfl rfl rfl (by with_reducible rfl) ?_ | refine Mix.lex_skipU rfl rfl rfl (by with_reducible rfl) ?_); simp only [Act.put, List.setIfInBounds_toArray, List.set_cons_succ, List.set_cons_zero]) | (refine Mix.lex_part rfl rfl rfl rfl (fun hq => ?_) (fun hq => ?_) <;> (fail_if_success (guard_hyp hq :ₛ true = true)) <;> (fail_if_success (guard_hyp hq :ₛ false = false)) <;> first | (exfalso; cases hq; done) | (exfalso; simp only [decide_eq_true_eq, decide_eq_false_iff_not, beq_iff_eq, beq_eq_false_iff_ne, ne_eq, Int.not_lt, Int.not_le] at hq; omega) | simp only [Act.put, List.setIfInBounds_toArray, List.set_cons_succ, List.set_cons_zero]))); all_goals (refine Mix.lex_nil ?_)) | (refine Mix.wp_still (by kernel_rfl) (by kernel_rfl) ?_; (repeat' (first | (refine Mix.lex_quiet0 rfl rfl rfl ?_; intro K hK; go_big_quiet_op; go_big_quiet_on) | (refine Mix.lex_quietG rfl rfl rfl (by with_reducible rfl) rfl rfl ?_; intro K hK; go_big_quiet_op; go_big_quiet_on) | ((first | refine Mix.lex_skipT rfl rfl rfl (by with_reducible rfl) ?_ | refine Mix.lex_skipF rfl rfl rfl (by with_reducible rfl) ?_ | refine Mix.lex_skipU rfl rfl rfl (by with_reducible rfl) ?_); simp only [Act.put, List.setIfInBounds_toArray, List.set_cons_succ, List.set_cons_zero]) | (refine Mix.lex_part rfl rfl rfl rfl (fun hq => ?_) (fun hq => ?_) <;> (fail_if_success (guard_hyp hq :ₛ true = true)) <;> (fail_if_success (guard_hyp hq :ₛ false = false)) <;> first | (exfalso; cases hq; done) | (exfalso; simp only [decide_eq_true_eq, decide_eq_false_iff_not, beq_iff_eq, beq_eq_false_iff_ne, ne_eq, Int.not_lt, Int.not_le] at hq; omega) | simp only [Act.put, List.setIfInBounds_toArray, List.set_cons_succ, List.set_cons_zero]))); all_goals (refine Mix.lex_nil ?_)))
        go_ret
        rw [HS.out, hfl.out]
        exact ⟨rfl, H.out, Only.refl _ _⟩
end Go.Proofs.Ytdiablabpaankaa
