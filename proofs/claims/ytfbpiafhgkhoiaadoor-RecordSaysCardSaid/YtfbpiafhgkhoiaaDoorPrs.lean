/- record.Parse. -/
import Derived.Test.YtfbpiafhgkhoiaaDoorPat
import Derived.Test.YtfbpiafhgkhoiaaDoorErrs
import Derived.Laws.ResultCell
namespace Go.Proofs.YtfbpiafhgkhoiaaDoor
open Go Go.RowKit
theorem bodyPost_cell {P : Program} {fn : Func} {R : Ending → World → Prop} {a : Act} {w : World} {p u : Tmp} {ty : TypeId} {ad : Addr} {v : Value} (h : fn.results = #[.cell p ty, .tmp u])
    (hp : a.tmps.getD p undef = .pointer (some ad)) (hd : a.defers = []) (hl : (loadVar ty ad).run P w = .ok v w) (hR : R (.returned (.tuple #[v, a.tmps.getD u undef])) w) : bodyPost P fn R .ret a w := by
  refine bodyPost_ret (v := .tuple #[v, a.tmps.getD u undef]) ?_ hd hR
  rw [results_cell_tmp h, hp]
  simp [asAddr, Sem.run_pure, Result.andThen, hl]
theorem load_rc {w : World} {b : Nat} {x y z : Value} (h : Cs w b rcT #[x, y, z]) : (loadVar rcT ⟨b, 0, none⟩).run Tryd.prog w = .ok (.agg #[x, y, z]) w := by
  have c0 := h.cell 0
  have c1 := h.cell 1
  have c2 := h.cell 2
  simp only [List.getElem?_toArray, List.getElem?_cons_succ, List.getElem?_cons_zero] at c0 c1 c2
  go_simp
@[go_sem] theorem rc_build0 (w : World) : (Instr.build rcT #[]).run Tryd.prog w = .ok (.agg #[.slice none 0 0, .slice none 0 0, .slice none 0 0]) w := run_build w rcT _ _ (by kernel_rfl)
@[go_sem] theorem rdr_build (s : ByteArray) (w : World) : (Instr.build rdT #[(0, .string s)]).run Tryd.prog w = .ok (.agg #[.string s, .bool false]) w := run_build w rdT _ _ (by kernel_rfl)
@[go_sem] theorem fl_build1 (s : ByteArray) (w : World) : (Instr.build 45 #[(0, .string s)]).run Tryd.prog w = .ok (.agg #[.string s, .string ⟨#[]⟩]) w := run_build w 45 _ _ (by kernel_rfl)
theorem st_info : (Tryd.prog.info? 9).map (fun i => (i.zero, i.size, i.bytes)) = some (some (.string ⟨#[]⟩), 1, 16) := by kernel_rfl
theorem st_ty : Ety Tryd.prog 22 9 1 := Ety.mk' Tryd.underlying22 st_info rfl (by omega) (by omega)
def prsX (s : Str) : Rcd × Str × Bool :=
  let n1 := numF (s ++ [32]) false 32 3
  let n2 := numF n1.1 n1.2.1 32 3
  let n3 := numF n2.1 n2.2.1 32 2
  let k := cmdsF n1.2.2.toNat n3.1 n3.2.1
  let f := filsF (n2.2.2.toNat + n3.2.2.toNat) k.1 k.2.1
  (⟨k.2.2, f.2.2.take n2.2.2.toNat, f.2.2.drop n2.2.2.toNat⟩, f.1, f.2.1)
def rcd0 : Rcd := ⟨[], [], []⟩
def prsOk (s : Str) : Bool := !(prsX s).2.2 && ((prsX s).2.1 == []) && (recT (prsX s).1 == s)
/-- G2. -/
def prsF (s : Str) : Rcd × Int := if prsOk s = true then ((prsX s).1, 0) else (rcd0, 4)
set_option maxRecDepth 100000 in
set_option maxHeartbeats 4000000 in
theorem RParse_c {w : World} (hE : Env w) (s : Str) (hs : s.length ≤ 5000) :
    Calls Tryd.prog 15 #[S s] w fun e w' => ∃ v, e = .returned (.tuple #[rcdV v (prsF s).1, errV (prsF s).2]) ∧ RcdR w' v (prsF s).1 ∧ Ext w w' := by
  obtain ⟨g2, hg2⟩ : ∃ g, g = w.heap.size := ⟨_, rfl⟩
  obtain ⟨g4, hg4⟩ : ∃ g, g = w.heap.size + 1 := ⟨_, rfl⟩
  obtain ⟨w1, hw1⟩ : ∃ w1, w1 = w.alloc (.cells #[.slice none 0 0, .slice none 0 0, .slice none 0 0] rcT) := ⟨_, rfl⟩
  obtain ⟨w2, hw2⟩ : ∃ w2, w2 = w1.alloc (.cells #[S (s ++ [32]), .bool false] rdT) := ⟨_, rfl⟩
  have x1 : Ext w w1 := by rw [hw1]; exact (Only.refl No w).alloc _
  have x2 : Ext w1 w2 := by rw [hw2]; exact (Only.refl No w1).alloc _
  have hz1 : w1.heap.size = w.heap.size + 1 := by rw [hw1]; simp
  have hc2 : Cs w1 g2 rcT #[.slice none 0 0, .slice none 0 0, .slice none 0 0] := by rw [hw1, hg2]; exact Cs.new _ _ _
  have hr2 : RdAt w2 g4 (s ++ [32]) false := by rw [hw2, hg4, ← hz1]; exact Cs.new _ _ _
  have HC2 := Lib.hid (hc2.keep x2 id)
  have HR2 := Lib.hid hr2
  have HX2 := Lib.hid (x1.then_ext x2)
  have hw24 : w.heap.size ≤ g2 ∧ w.heap.size ≤ g4 ∧ g2 ≠ g4 := by omega
  obtain ⟨hn2, hn4, hn24⟩ := hw24
  have HE := Lib.hid hE
  have HP : Hid (prsF s = if prsOk s = true then ((prsX s).1, 0) else (rcd0, 4)) := rfl
  have HOk : Hid (prsOk s = (!(prsX s).2.2 && ((prsX s).2.1 == []) && (recT (prsX s).1 == s))) := rfl
  obtain ⟨N1, hN1⟩ : ∃ n, n = numF (s ++ [32]) false 32 3 := ⟨_, rfl⟩
  obtain ⟨N2, hN2⟩ : ∃ n, n = numF N1.1 N1.2.1 32 3 := ⟨_, rfl⟩
  obtain ⟨N3, hN3⟩ : ∃ n, n = numF N2.1 N2.2.1 32 2 := ⟨_, rfl⟩
  have HPx : Hid (prsX s = (⟨(cmdsF N1.2.2.toNat N3.1 N3.2.1).2.2, (filsF (N2.2.2.toNat + N3.2.2.toNat) (cmdsF N1.2.2.toNat N3.1 N3.2.1).1 (cmdsF N1.2.2.toNat N3.1 N3.2.1).2.1).2.2.take N2.2.2.toNat, (filsF (N2.2.2.toNat + N3.2.2.toNat) (cmdsF N1.2.2.toNat N3.1 N3.2.1).1 (cmdsF N1.2.2.toNat N3.1 N3.2.1).2.1).2.2.drop N2.2.2.toNat⟩,
      (filsF (N2.2.2.toNat + N3.2.2.toNat) (cmdsF N1.2.2.toNat N3.1 N3.2.1).1 (cmdsF N1.2.2.toNat N3.1 N3.2.1).2.1).1, (filsF (N2.2.2.toNat + N3.2.2.toNat) (cmdsF N1.2.2.toNat N3.1 N3.2.1).1 (cmdsF N1.2.2.toNat N3.1 N3.2.1).2.1).2.1)) := by
    subst hN3; subst hN2; subst hN1; rfl
  have f1 := numF_facts (s ++ [32]) false 32 3 (by omega)
  have f2 := numF_facts N1.1 N1.2.1 32 3 (by omega)
  have f3 := numF_facts N2.1 N2.2.1 32 2 (by omega)
  rw [← hN1] at f1
  rw [← hN2] at f2
  rw [← hN3] at f3
  have hsl : (s ++ [32]).length ≤ 5001 := by simp; omega
  have HQ1 : Hid (∀ v, Ext w v → RdAt v g4 (s ++ [32]) false → Calls Tryd.prog 31 #[ptr g4, S [32], .int .i64 3] v (RdRes v g4 N1.1 N1.2.1 (.int .i64 N1.2.2))) := fun v hv h => by rw [hN1]; exact number_c hE hv hn4 h (by omega) 32 3 (by omega)
  have HQ2 : Hid (∀ v, Ext w v → RdAt v g4 N1.1 N1.2.1 → Calls Tryd.prog 31 #[ptr g4, S [32], .int .i64 3] v (RdRes v g4 N2.1 N2.2.1 (.int .i64 N2.2.2))) := fun v hv h => by rw [hN2]; exact number_c hE hv hn4 h (by omega) 32 3 (by omega)
  have HQ3 : Hid (∀ v, Ext w v → RdAt v g4 N2.1 N2.2.1 → Calls Tryd.prog 31 #[ptr g4, S [32], .int .i64 2] v (RdRes v g4 N3.1 N3.2.1 (.int .i64 N3.2.2))) := fun v hv h => by rw [hN3]; exact number_c hE hv hn4 h (by omega) 32 2 (by omega)
  clear hN1 hN2 hN3
  obtain ⟨s1, b1, na⟩ := N1
  obtain ⟨s2, b2, nb⟩ := N2
  obtain ⟨s3, b3, nc⟩ := N3
  dsimp only at f1 f2 f3 HPx HQ1 HQ2 HQ3
  obtain ⟨f11, f12, f13⟩ := f1
  obtain ⟨f21, f22, f23⟩ := f2
  obtain ⟨f31, f32, f33⟩ := f3
  obtain ⟨a, rfl⟩ : ∃ a : Nat, na = a := ⟨na.toNat, by omega⟩
  obtain ⟨b, rfl⟩ : ∃ a : Nat, nb = a := ⟨nb.toNat, by omega⟩
  obtain ⟨c, rfl⟩ : ∃ a : Nat, nc = a := ⟨nc.toNat, by omega⟩
  rw [Int.toNat_natCast, Int.toNat_natCast, Int.toNat_natCast] at HPx
  have hs3 : s3.length ≤ 5001 := by omega
  have ha3 : a ≤ 3 := by omega
  have hb3 : b ≤ 3 := by omega
  have hc3 : c ≤ 2 := by omega
  clear f11 f12 f13 f21 f22 f23 f31 f32 f33 hsl x1 x2 hz1 hc2 hr2 hE
  go_enter Tryd.func15, Tryd.ntmps15
  go_upto_region 2 with fail
  rw [← hw1, ← hw2, ← hg4, ← hg2]
  clear hw1 hw2 hg4 hg2
  go_wp2_with (first | (refine Mix.wpList_guarded rfl ?_; (repeat' (first | (refine Mix.lex_quiet0 rfl rfl rfl ?_; intro K hK; go_big_quiet_op; go_big_quiet_on) | (refine Mix.lex_quietG rfl rfl rfl (by with_reducible rfl) rfl rfl ?_; intro K hK; go_big_quiet_op; go_big_quiet_on) | ((first | refine Mix.lex_skipT rfl rfl rfl (by with_reducible rfl) ?_ | refine Mix.lex_skipF rfl rfl rfl (by with_reducible rfl) ?_ | refine Mix.lex_skipU rfl rfl rfl (by with_reducible rfl) ?_); simp only [Act.put, List.setIfInBounds_toArray, List.set_cons_succ, List.set_cons_zero]) | (refine Mix.lex_part rfl rfl rfl rfl (fun hq => ?_) (fun hq => ?_) <;> (fail_if_success (guard_hyp hq :ₛ true = true)) <;> (fail_if_success (guard_hyp hq :ₛ false = false)) <;> first | (exfalso; cases hq; done) | (exfalso; simp only [decide_eq_true_eq, decide_eq_false_iff_not, beq_iff_eq, beq_eq_false_iff_ne, ne_eq, Int.not_lt, Int.not_le] at hq; omega) | simp only [Act.put, List.setIfInBounds_toArray, List.set_cons_succ, List.set_cons_zero]))); all_goals (refine Mix.lex_nil ?_)) | (refine Mix.wp_still (by kernel_rfl) (by kernel_rfl) ?_; (repeat' (first | (refine Mix.lex_quiet0 rfl rfl rfl ?_; intro K hK; go_big_quiet_op; go_big_quiet_on) | (refine Mix.lex_quietG rfl rfl rfl (by with_reducible rfl) rfl rfl ?_; intro K hK; go_big_quiet_op; go_big_quiet_on) | ((first | refine Mix.lex_skipT rfl rfl rfl (by with_reducible rfl) ?_ | refine Mix.lex_skipF rfl rfl rfl (by with_reducible rfl) ?_ | refine Mix.lex_skipU rfl rfl rfl (by with_reducible rfl) ?_); simp only [Act.put, List.setIfInBounds_toArray, List.set_cons_succ, List.set_cons_zero]) | (refine Mix.lex_part rfl rfl rfl rfl (fun hq => ?_) (fun hq => ?_) <;> (fail_if_success (guard_hyp hq :ₛ true = true)) <;> (fail_if_success (guard_hyp hq :ₛ false = false)) <;> first | (exfalso; cases hq; done) | (exfalso; simp only [decide_eq_true_eq, decide_eq_false_iff_not, beq_iff_eq, beq_eq_false_iff_ne, ne_eq, Int.not_lt, Int.not_le] at hq; omega) | simp only [Act.put, List.setIfInBounds_toArray, List.set_cons_succ, List.set_cons_zero]))); all_goals (refine Mix.lex_nil ?_)))
  refine (HQ1.out _ HX2.out HR2.out).mono ?_
  rintro e u1 ⟨rfl, q1, q2⟩
  have R1 := Lib.hid q1
  have X1 : Hid (Ext w u1) := HX2.out.trans q2 fun b hb e => by have e : b = g4 := e; omega
  have C1 := Lib.hid (HC2.out.keep q2 hn24)
  clear q1 q2 HQ1 HC2 HR2 HX2
  go_wp2_with (first | (refine Mix.wpList_guarded rfl ?_; (repeat' (first | (refine Mix.lex_quiet0 rfl rfl rfl ?_; intro K hK; go_big_quiet_op; go_big_quiet_on) | (refine Mix.lex_quietG rfl rfl rfl (by with_reducible rfl) rfl rfl ?_; intro K hK; go_big_quiet_op; go_big_quiet_on) | ((first | refine Mix.lex_skipT rfl rfl rfl (by with_reducible rfl) ?_ | refine Mix.lex_skipF rfl rfl rfl (by with_reducible rfl) ?_ | refine Mix.lex_skipU rfl rfl rfl (by with_reducible rfl) ?_); simp only [Act.put, List.setIfInBounds_toArray, List.set_cons_succ, List.set_cons_zero]) | (refine Mix.lex_part rfl rfl rfl rfl (fun hq => ?_) (fun hq => ?_) <;> (fail_if_success (guard_hyp hq :ₛ true = true)) <;> (fail_if_success (guard_hyp hq :ₛ false = false)) <;> first | (exfalso; cases hq; done) | (exfalso; simp only [decide_eq_true_eq, decide_eq_false_iff_not, beq_iff_eq, beq_eq_false_iff_ne, ne_eq, Int.not_lt, Int.not_le] at hq; omega) | simp only [Act.put, List.setIfInBounds_toArray, List.set_cons_succ, List.set_cons_zero]))); all_goals (refine Mix.lex_nil ?_)) | (refine Mix.wp_still (by kernel_rfl) (by kernel_rfl) ?_; (repeat' (first | (refine Mix.lex_quiet0 rfl rfl rfl ?_; intro K hK; go_big_quiet_op; go_big_quiet_on) | (refine Mix.lex_quietG rfl rfl rfl (by with_reducible rfl) rfl rfl ?_; intro K hK; go_big_quiet_op; go_big_quiet_on) | ((first | refine Mix.lex_skipT rfl rfl rfl (by with_reducible rfl) ?_ | refine Mix.lex_skipF rfl rfl rfl (by with_reducible rfl) ?_ | refine Mix.lex_skipU rfl rfl rfl (by with_reducible rfl) ?_); simp only [Act.put, List.setIfInBounds_toArray, List.set_cons_succ, List.set_cons_zero]) | (refine Mix.lex_part rfl rfl rfl rfl (fun hq => ?_) (fun hq => ?_) <;> (fail_if_success (guard_hyp hq :ₛ true = true)) <;> (fail_if_success (guard_hyp hq :ₛ false = false)) <;> first | (exfalso; cases hq; done) | (exfalso; simp only [decide_eq_true_eq, decide_eq_false_iff_not, beq_iff_eq, beq_eq_false_iff_ne, ne_eq, Int.not_lt, Int.not_le] at hq; omega) | simp only [Act.put, List.setIfInBounds_toArray, List.set_cons_succ, List.set_cons_zero]))); all_goals (refine Mix.lex_nil ?_)))
  refine (HQ2.out _ X1.out R1.out).mono ?_
  rintro e u2 ⟨rfl, q1, q2⟩
  have R2 := Lib.hid q1
  have X2 : Hid (Ext w u2) := X1.out.trans q2 fun b hb e => by have e : b = g4 := e; omega
  have C2 := Lib.hid (C1.out.keep q2 hn24)
  clear q1 q2 HQ2 C1 R1 X1
  go_wp2_with (first | (refine Mix.wpList_guarded rfl ?_; (repeat' (first | (refine Mix.lex_quiet0 rfl rfl rfl ?_; intro K hK; go_big_quiet_op; go_big_quiet_on) | (refine Mix.lex_quietG rfl rfl rfl (by with_reducible rfl) rfl rfl ?_; intro K hK; go_big_quiet_op; go_big_quiet_on) | ((first | refine Mix.lex_skipT rfl rfl rfl (by with_reducible rfl) ?_ | refine Mix.lex_skipF rfl rfl rfl (by with_reducible rfl) ?_ | refine Mix.lex_skipU rfl rfl rfl (by with_reducible rfl) ?_); simp only [Act.put, List.setIfInBounds_toArray, List.set_cons_succ, List.set_cons_zero]) | (refine Mix.lex_part rfl rfl rfl rfl (fun hq => ?_) (fun hq => ?_) <;> (fail_if_success (guard_hyp hq :ₛ true = true)) <;> (fail_if_success (guard_hyp hq :ₛ false = false)) <;> first | (exfalso; cases hq; done) | (exfalso; simp only [decide_eq_true_eq, decide_eq_false_iff_not, beq_iff_eq, beq_eq_false_iff_ne, ne_eq, Int.not_lt, Int.not_le] at hq; omega) | simp only [Act.put, List.setIfInBounds_toArray, List.set_cons_succ, List.set_cons_zero]))); all_goals (refine Mix.lex_nil ?_)) | (refine Mix.wp_still (by kernel_rfl) (by kernel_rfl) ?_; (repeat' (first | (refine Mix.lex_quiet0 rfl rfl rfl ?_; intro K hK; go_big_quiet_op; go_big_quiet_on) | (refine Mix.lex_quietG rfl rfl rfl (by with_reducible rfl) rfl rfl ?_; intro K hK; go_big_quiet_op; go_big_quiet_on) | ((first | refine Mix.lex_skipT rfl rfl rfl (by with_reducible rfl) ?_ | refine Mix.lex_skipF rfl rfl rfl (by with_reducible rfl) ?_ | refine Mix.lex_skipU rfl rfl rfl (by with_reducible rfl) ?_); simp only [Act.put, List.setIfInBounds_toArray, List.set_cons_succ, List.set_cons_zero]) | (refine Mix.lex_part rfl rfl rfl rfl (fun hq => ?_) (fun hq => ?_) <;> (fail_if_success (guard_hyp hq :ₛ true = true)) <;> (fail_if_success (guard_hyp hq :ₛ false = false)) <;> first | (exfalso; cases hq; done) | (exfalso; simp only [decide_eq_true_eq, decide_eq_false_iff_not, beq_iff_eq, beq_eq_false_iff_ne, ne_eq, Int.not_lt, Int.not_le] at hq; omega) | simp only [Act.put, List.setIfInBounds_toArray, List.set_cons_succ, List.set_cons_zero]))); all_goals (refine Mix.lex_nil ?_)))
  refine (HQ3.out _ X2.out R2.out).mono ?_
  rintro e u3 ⟨rfl, q1, q2⟩
  have R3 := Lib.hid q1
  have X3 : Hid (Ext w u3) := X2.out.trans q2 fun b hb e => by have e : b = g4 := e; omega
  have C3 := Lib.hid (C2.out.keep q2 hn24)
  clear q1 q2 HQ3 C2 R2 X2
  obtain ⟨g8, hg8⟩ : ∃ g, g = u3.heap.size := ⟨_, rfl⟩
  obtain ⟨u4, hu4⟩ : ∃ u, u = u3.alloc (.cells #[.slice none 0 0, .slice none 0 0, .slice none 0 0] rcT) := ⟨_, rfl⟩
  have P4 : Hid (PAt w u4 g2 g4 g8 s3 b3 ⟨none, 0, none, 0, none, 0⟩ [] [] []) := by
    have x : Ext u3 u4 := by rw [hu4]; exact (Only.refl No u3).alloc _
    have e1 := X3.out.then_ext x
    refine ⟨R3.out.ext x, ?_, C3.out.keep x id, Fresh.nil _ _ _ _ e1, Fresh.nil _ _ _ _ e1, Fresh.nil _ _ _ _ e1, fun g h => by simp [Value.ownBlock] at h, hn2, hn4, ?_, ?_⟩
    · rw [hu4, hg8]; exact Cs.new _ _ _
    · rw [hg8]; exact X3.out.size
    · have := C3.out.lt; omega
  go_upto_region 4 with fail
  rw [← hu4, ← hg8]
  clear hu4 hg8 R3 X3 C3
  go_wp2_with (first | (refine Mix.wpList_guarded rfl ?_; (repeat' (first | (refine Mix.lex_quiet0 rfl rfl rfl ?_; intro K hK; go_big_quiet_op; go_big_quiet_on) | (refine Mix.lex_quietG rfl rfl rfl (by with_reducible rfl) rfl rfl ?_; intro K hK; go_big_quiet_op; go_big_quiet_on) | ((first | refine Mix.lex_skipT rfl rfl rfl (by with_reducible rfl) ?_ | refine Mix.lex_skipF rfl rfl rfl (by with_reducible rfl) ?_ | refine Mix.lex_skipU rfl rfl rfl (by with_reducible rfl) ?_); simp only [Act.put, List.setIfInBounds_toArray, List.set_cons_succ, List.set_cons_zero]) | (refine Mix.lex_part rfl rfl rfl rfl (fun hq => ?_) (fun hq => ?_) <;> (fail_if_success (guard_hyp hq :ₛ true = true)) <;> (fail_if_success (guard_hyp hq :ₛ false = false)) <;> first | (exfalso; cases hq; done) | (exfalso; simp only [decide_eq_true_eq, decide_eq_false_iff_not, beq_iff_eq, beq_eq_false_iff_ne, ne_eq, Int.not_lt, Int.not_le] at hq; omega) | simp only [Act.put, List.setIfInBounds_toArray, List.set_cons_succ, List.set_cons_zero]))); all_goals (refine Mix.lex_nil ?_)) | (refine Mix.wp_still (by kernel_rfl) (by kernel_rfl) ?_; (repeat' (first | (refine Mix.lex_quiet0 rfl rfl rfl ?_; intro K hK; go_big_quiet_op; go_big_quiet_on) | (refine Mix.lex_quietG rfl rfl rfl (by with_reducible rfl) rfl rfl ?_; intro K hK; go_big_quiet_op; go_big_quiet_on) | ((first | refine Mix.lex_skipT rfl rfl rfl (by with_reducible rfl) ?_ | refine Mix.lex_skipF rfl rfl rfl (by with_reducible rfl) ?_ | refine Mix.lex_skipU rfl rfl rfl (by with_reducible rfl) ?_); simp only [Act.put, List.setIfInBounds_toArray, List.set_cons_succ, List.set_cons_zero]) | (refine Mix.lex_part rfl rfl rfl rfl (fun hq => ?_) (fun hq => ?_) <;> (fail_if_success (guard_hyp hq :ₛ true = true)) <;> (fail_if_success (guard_hyp hq :ₛ false = false)) <;> first | (exfalso; cases hq; done) | (exfalso; simp only [decide_eq_true_eq, decide_eq_false_iff_not, beq_iff_eq, beq_eq_false_iff_ne, ne_eq, Int.not_lt, Int.not_le] at hq; omega) | simp only [Act.put, List.setIfInBounds_toArray, List.set_cons_succ, List.set_cons_zero]))); all_goals (refine Mix.lex_nil ?_)))
  go_loopw [22] (fun i wr => ∃ j : Nat, j ≤ a ∧ i = .int .i64 j ∧ ∃ (t : Str) (bd : Bool) (cA : Option Addr) (cc : Nat) (cs : List Str), PAt w wr g2 g4 g8 t bd ⟨cA, cc, none, 0, none, 0⟩ cs [] [] ∧ cs.length = j ∧ t.length ≤ 5001 ∧ (∀ x ∈ cs, x.length ≤ 300) ∧
    cmdsF a s3 b3 = ((cmdsF (a - j) t bd).1, (cmdsF (a - j) t bd).2.1, cs ++ (cmdsF (a - j) t bd).2.2)) (fun i _ => a - (intOf i).toNat)
  case atStart => exact ⟨0, Nat.zero_le _, rfl, s3, b3, none, 0, [], P4.out, rfl, hs3, (fun x hx => by cases hx), rfl⟩
  case round =>
    clear P4
    obtain ⟨j, hj, rfl, t, bd, cA, cc, cs, hP, hcl, htl, hcx, hF⟩ := hrel
    have P := Lib.hid hP
    have HF := Lib.hid hF
    have HCx := Lib.hid hcx
    clear hP hF hcx
    by_cases hlt : j < a
    · obtain ⟨m, hm⟩ : ∃ m, a - j = m + 1 := ⟨a - j - 1, by omega⟩
      have HF2 : Hid (cmdsF a s3 b3 = ((cmdsF m (txtF t bd 300).1 (txtF t bd 300).2.1).1, (cmdsF m (txtF t bd 300).1 (txtF t bd 300).2.1).2.1, cs ++ (txtF t bd 300).2.2 :: (cmdsF m (txtF t bd 300).1 (txtF t bd 300).2.1).2.2)) := by rw [Hid, HF.out, hm]; rfl
      have hm2 : a - (j + 1) = m := by omega
      have HTx := Lib.hid (fun v (hv : Ext w v) (h : RdAt v g4 t bd) => text_c HE.out hv hn4 h (by omega) 300 (by omega) (by omega))
      have hx := txtF_len t bd 300 (by omega)
      generalize txtF t bd 300 = q at HF2 HTx hx
      obtain ⟨t', bd', x⟩ := q
      dsimp only at HF2 HTx hx
      obtain ⟨hx1, hx2, hx3⟩ := hx
      subst hcl
      have hc0 := P.out.rc
      obtain ⟨F, hF⟩ : ∃ F : Nat → Prop, F = fun b => b = g4 ∨ (Value.slice cA cs.length cc).ownBlock = some b := ⟨_, rfl⟩
      have hF8 : ¬ F g8 := by
        rw [hF]
        rintro (e | e)
        · exact Cs.ne_ P.out.rc P.out.rd (by decide) e
        · exact own_ne_cs P.out.fc.own P.out.rc (by decide) _ e rfl
      obtain ⟨wd, hwd⟩ : ∃ v, v = wr.drew := ⟨_, rfl⟩
      have PD : Hid (PAt w wd g2 g4 g8 t bd ⟨cA, cc, none, 0, none, 0⟩ cs [] []) := by rw [hwd]; exact P.out.ext (Only.refl No _).drew
      have c0 : ∀ ξ : X wd F, ξ.v.cell? ⟨g8, 0, none⟩ = some (.slice cA cs.length cc) := PD.out.rc.x hF8 0
      have HFq := Lib.hid hF
      clear hc0 hF hF8 HF
      go_upto_region 6 with fail
      refine Mix.wp_draw [3, 4, 5, 7] 7 (Cl wd F) (by kernel_rfl) (by kernel_rfl) (by rw [hwd]; exact Cl.of (Only.refl _ _)) ?_
      rw [← hwd]
      clear hwd P
      (repeat' (first | (refine Mix.lex_quiet0 rfl rfl rfl ?_; intro K hK; go_big_quiet_op; go_big_quiet_on) | (refine Mix.lex_quietG rfl rfl rfl (by with_reducible rfl) rfl rfl ?_; intro K hK; go_big_quiet_op; go_big_quiet_on) | ((first | refine Mix.lex_skipT rfl rfl rfl (by with_reducible rfl) ?_ | refine Mix.lex_skipF rfl rfl rfl (by with_reducible rfl) ?_ | refine Mix.lex_skipU rfl rfl rfl (by with_reducible rfl) ?_); simp only [Act.put, List.setIfInBounds_toArray, List.set_cons_succ, List.set_cons_zero]) | (refine Mix.lex_part rfl rfl rfl rfl (fun hq => ?_) (fun hq => ?_) <;> (fail_if_success (guard_hyp hq :ₛ true = true)) <;> (fail_if_success (guard_hyp hq :ₛ false = false)) <;> first | (exfalso; cases hq; done) | (exfalso; simp only [decide_eq_true_eq, decide_eq_false_iff_not, beq_iff_eq, beq_eq_false_iff_ne, ne_eq, Int.not_lt, Int.not_le] at hq; omega) | simp only [Act.put, List.setIfInBounds_toArray, List.set_cons_succ, List.set_cons_zero])))
      ((first | refine Mix.lex_goes0 rfl rfl ?_ | refine Mix.lex_goesG rfl rfl rfl (by with_reducible rfl) rfl ?_); intro K hK; go_simp)
      refine (HTx.out _ PD.out.x PD.out.rd).mono ?_
      rintro e u5 ⟨rfl, q1, q2⟩
      have P5 := Lib.hid (PD.out.read q1 q2)
      have O5 : Hid (Only F wd u5) := q2.weak fun b _ e => by rw [HFq.out]; exact .inl e
      refine ⟨_, rfl, hK _ _ (fun _ => Cl.of O5.out) ?_⟩
      clear hK K q1 q2 PD HTx
      simp only [Act.put, List.setIfInBounds_toArray, List.set_cons_succ, List.set_cons_zero]
      ((first | refine Mix.lex_goes0 rfl rfl ?_ | refine Mix.lex_goesG rfl rfl rfl (by with_reducible rfl) rfl ?_); intro K hK; go_simp)
      have P6 := Lib.hid (P5.out.ext ((Only.refl No u5).alloc (.cells #[S x] 9)))
      refine hK _ _ (fun _ => Cl.of (O5.out.alloc _)) ?_
      clear hK K
      simp only [Act.put, List.setIfInBounds_toArray, List.set_cons_succ, List.set_cons_zero]
      refine Mix.lex_goes0 rfl rfl ?_
      intro K hK
      refine goes_append (v := .slice cA cs.length cc) (n := cs.length) (xs := cs.flatMap strF.enc) st_ty rfl rfl rfl P6.out.fc.own (rd_one u5 _ [S x]) (by simp [Value.oneCell']) (by omega) ?_
      intro A' c' w5 hown5 hg5 hb5
      have P7 := Lib.hid (P6.out.growC (t := x) hown5 hg5 hb5)
      have O7 : Hid (Only F wd w5) := (O5.out.alloc (.cells #[S x] 9)).grown hg5 fun g hg => .inr (by rw [HFq.out]; exact .inr hg)
      refine hK _ _ (fun _ => Cl.of O7.out) ?_
      clear hK K
      simp only [Act.put, List.setIfInBounds_toArray, List.set_cons_succ, List.set_cons_zero]
      have C7 : Cs w5 g8 rcT #[.slice cA cs.length cc, .slice none 0 0, .slice none 0 0] := P6.out.rc.keep ((Only.refl (fun b => (Value.slice cA cs.length cc).ownBlock = some b) _).grown hg5 fun g hg => .inr hg) (fun e => own_ne_cs P6.out.fc.own P6.out.rc (by decide) _ e rfl)
      have y0 : w5.cell? ⟨g8, 0, none⟩ = some (.slice cA cs.length cc) := C7.cell 0
      have z0 := C7.frozen 0
      clear C7 hown5 hg5 hb5 P6 P5
      (repeat' (first | (refine Mix.lex_quiet0 rfl rfl rfl ?_; intro K hK; go_big_quiet_op; go_big_quiet_on) | (refine Mix.lex_quietG rfl rfl rfl (by with_reducible rfl) rfl rfl ?_; intro K hK; go_big_quiet_op; go_big_quiet_on) | ((first | refine Mix.lex_skipT rfl rfl rfl (by with_reducible rfl) ?_ | refine Mix.lex_skipF rfl rfl rfl (by with_reducible rfl) ?_ | refine Mix.lex_skipU rfl rfl rfl (by with_reducible rfl) ?_); simp only [Act.put, List.setIfInBounds_toArray, List.set_cons_succ, List.set_cons_zero]) | (refine Mix.lex_part rfl rfl rfl rfl (fun hq => ?_) (fun hq => ?_) <;> (fail_if_success (guard_hyp hq :ₛ true = true)) <;> (fail_if_success (guard_hyp hq :ₛ false = false)) <;> first | (exfalso; cases hq; done) | (exfalso; simp only [decide_eq_true_eq, decide_eq_false_iff_not, beq_iff_eq, beq_eq_false_iff_ne, ne_eq, Int.not_lt, Int.not_le] at hq; omega) | simp only [Act.put, List.setIfInBounds_toArray, List.set_cons_succ, List.set_cons_zero])))
      ((first | refine Mix.lex_goes0 rfl rfl ?_ | refine Mix.lex_goesG rfl rfl rfl (by with_reducible rfl) rfl ?_); intro K hK; go_simp)
      refine hK _ _ (fun hne => absurd rfl hne) ?_
      clear hK K y0 z0
      simp only [Act.put, List.setIfInBounds_toArray, List.set_cons_succ, List.set_cons_zero]
      refine Mix.lex_nil ?_
      go_wp2_with (first | (refine Mix.wpList_guarded rfl ?_; (repeat' (first | (refine Mix.lex_quiet0 rfl rfl rfl ?_; intro K hK; go_big_quiet_op; go_big_quiet_on) | (refine Mix.lex_quietG rfl rfl rfl (by with_reducible rfl) rfl rfl ?_; intro K hK; go_big_quiet_op; go_big_quiet_on) | ((first | refine Mix.lex_skipT rfl rfl rfl (by with_reducible rfl) ?_ | refine Mix.lex_skipF rfl rfl rfl (by with_reducible rfl) ?_ | refine Mix.lex_skipU rfl rfl rfl (by with_reducible rfl) ?_); simp only [Act.put, List.setIfInBounds_toArray, List.set_cons_succ, List.set_cons_zero]) | (refine Mix.lex_part rfl rfl rfl rfl (fun hq => ?_) (fun hq => ?_) <;> (fail_if_success (guard_hyp hq :ₛ true = true)) <;> (fail_if_success (guard_hyp hq :ₛ false = false)) <;> first | (exfalso; cases hq; done) | (exfalso; simp only [decide_eq_true_eq, decide_eq_false_iff_not, beq_iff_eq, beq_eq_false_iff_ne, ne_eq, Int.not_lt, Int.not_le] at hq; omega) | simp only [Act.put, List.setIfInBounds_toArray, List.set_cons_succ, List.set_cons_zero]))); all_goals (refine Mix.lex_nil ?_)) | (refine Mix.wp_still (by kernel_rfl) (by kernel_rfl) ?_; (repeat' (first | (refine Mix.lex_quiet0 rfl rfl rfl ?_; intro K hK; go_big_quiet_op; go_big_quiet_on) | (refine Mix.lex_quietG rfl rfl rfl (by with_reducible rfl) rfl rfl ?_; intro K hK; go_big_quiet_op; go_big_quiet_on) | ((first | refine Mix.lex_skipT rfl rfl rfl (by with_reducible rfl) ?_ | refine Mix.lex_skipF rfl rfl rfl (by with_reducible rfl) ?_ | refine Mix.lex_skipU rfl rfl rfl (by with_reducible rfl) ?_); simp only [Act.put, List.setIfInBounds_toArray, List.set_cons_succ, List.set_cons_zero]) | (refine Mix.lex_part rfl rfl rfl rfl (fun hq => ?_) (fun hq => ?_) <;> (fail_if_success (guard_hyp hq :ₛ true = true)) <;> (fail_if_success (guard_hyp hq :ₛ false = false)) <;> first | (exfalso; cases hq; done) | (exfalso; simp only [decide_eq_true_eq, decide_eq_false_iff_not, beq_iff_eq, beq_eq_false_iff_ne, ne_eq, Int.not_lt, Int.not_le] at hq; omega) | simp only [Act.put, List.setIfInBounds_toArray, List.set_cons_succ, List.set_cons_zero]))); all_goals (refine Mix.lex_nil ?_)))
      go_roundw
      case rel => exact ⟨cs.length + 1, by omega, by go_num, t', bd', A', c', cs ++ [x], P7.out, by simp, by omega, fun y hy => (List.mem_append.1 hy).elim (HCx.out y) (fun e => by simp at e; rw [e]; omega), by rw [hm2, HF2.out]; simp⟩
      case measure => simp [intOf]; omega
    · obtain rfl : j = a := by omega
      have HK : Hid (cmdsF j s3 b3 = (t, bd, cs)) := by
        rw [Hid, HF.out, Nat.sub_self]
        simp [cmdsF]
      rw [HK.out] at HPx
      dsimp only at HPx
      have hcsl : cs.length ≤ 100 := by omega
      clear HF HK hlt hcl
      have HFi : Hid (filsF (b + c) t bd = ((filsF (b + c - 0) t bd).1, (filsF (b + c - 0) t bd).2.1, [] ++ (filsF (b + c - 0) t bd).2.2)) := rfl
      go_wp2_with (first | (refine Mix.wpList_guarded rfl ?_; (repeat' (first | (refine Mix.lex_quiet0 rfl rfl rfl ?_; intro K hK; go_big_quiet_op; go_big_quiet_on) | (refine Mix.lex_quietG rfl rfl rfl (by with_reducible rfl) rfl rfl ?_; intro K hK; go_big_quiet_op; go_big_quiet_on) | ((first | refine Mix.lex_skipT rfl rfl rfl (by with_reducible rfl) ?_ | refine Mix.lex_skipF rfl rfl rfl (by with_reducible rfl) ?_ | refine Mix.lex_skipU rfl rfl rfl (by with_reducible rfl) ?_); simp only [Act.put, List.setIfInBounds_toArray, List.set_cons_succ, List.set_cons_zero]) | (refine Mix.lex_part rfl rfl rfl rfl (fun hq => ?_) (fun hq => ?_) <;> (fail_if_success (guard_hyp hq :ₛ true = true)) <;> (fail_if_success (guard_hyp hq :ₛ false = false)) <;> first | (exfalso; cases hq; done) | (exfalso; simp only [decide_eq_true_eq, decide_eq_false_iff_not, beq_iff_eq, beq_eq_false_iff_ne, ne_eq, Int.not_lt, Int.not_le] at hq; omega) | simp only [Act.put, List.setIfInBounds_toArray, List.set_cons_succ, List.set_cons_zero]))); all_goals (refine Mix.lex_nil ?_)) | (refine Mix.wp_still (by kernel_rfl) (by kernel_rfl) ?_; (repeat' (first | (refine Mix.lex_quiet0 rfl rfl rfl ?_; intro K hK; go_big_quiet_op; go_big_quiet_on) | (refine Mix.lex_quietG rfl rfl rfl (by with_reducible rfl) rfl rfl ?_; intro K hK; go_big_quiet_op; go_big_quiet_on) | ((first | refine Mix.lex_skipT rfl rfl rfl (by with_reducible rfl) ?_ | refine Mix.lex_skipF rfl rfl rfl (by with_reducible rfl) ?_ | refine Mix.lex_skipU rfl rfl rfl (by with_reducible rfl) ?_); simp only [Act.put, List.setIfInBounds_toArray, List.set_cons_succ, List.set_cons_zero]) | (refine Mix.lex_part rfl rfl rfl rfl (fun hq => ?_) (fun hq => ?_) <;> (fail_if_success (guard_hyp hq :ₛ true = true)) <;> (fail_if_success (guard_hyp hq :ₛ false = false)) <;> first | (exfalso; cases hq; done) | (exfalso; simp only [decide_eq_true_eq, decide_eq_false_iff_not, beq_iff_eq, beq_eq_false_iff_ne, ne_eq, Int.not_lt, Int.not_le] at hq; omega) | simp only [Act.put, List.setIfInBounds_toArray, List.set_cons_succ, List.set_cons_zero]))); all_goals (refine Mix.lex_nil ?_)))
      go_loopw [35] (fun i wr => ∃ k : Nat, k ≤ b + c ∧ i = .int .i64 k ∧ ∃ (y : Str) (yb : Bool) (nA oA : Option Addr) (nc oc : Nat) (nd od : List File), PAt w wr g2 g4 g8 y yb ⟨cA, cc, nA, nc, oA, oc⟩ cs nd od ∧ nd.length + od.length = k ∧ (k ≤ b → od = [] ∧ oA = none ∧ oc = 0) ∧ (b ≤ k → nd.length = b) ∧ y.length ≤ 5001 ∧ (∀ x ∈ nd ++ od, x.1.length ≤ 5001 ∧ x.2.length ≤ 20) ∧
        filsF (b + c) t bd = ((filsF (b + c - k) y yb).1, (filsF (b + c - k) y yb).2.1, (nd ++ od) ++ (filsF (b + c - k) y yb).2.2)) (fun i _ => b + c - (intOf i).toNat)
      case atStart => exact ⟨0, Nat.zero_le _, rfl, t, bd, none, none, 0, 0, [], [], P.out, rfl, fun _ => ⟨rfl, rfl, rfl⟩, fun h => by simp; omega, htl, (fun x hx => by cases hx), HFi.out⟩
      case round =>
        clear HFi P
        obtain ⟨k, hk, rfl, y, yb, nA, oA, nc, oc, nd, od, hP, hkl, hko, hkb, hyl, hfl, hFi⟩ := hrel
        have P0 := Lib.hid hP
        have HFi := Lib.hid hFi
        have HFl := Lib.hid hfl
        have HKo := Lib.hid hko
        have HKb := Lib.hid hkb
        clear hP hFi hfl hko hkb
        by_cases hlt : k < b + c
        · obtain ⟨m, hm⟩ : ∃ m, b + c - k = m + 1 := ⟨b + c - k - 1, by omega⟩
          have hm2 : b + c - (k + 1) = m := by omega
          have HF2 : Hid (filsF (b + c) t bd = ((filsF m (filF y yb).1 (filF y yb).2.1).1, (filsF m (filF y yb).1 (filF y yb).2.1).2.1, (nd ++ od) ++ (filF y yb).2.2 :: (filsF m (filF y yb).1 (filF y yb).2.1).2.2)) := by rw [Hid, HFi.out, hm]; rfl
          have hfl1 := filF_len y yb
          have HFf : Hid (filF y yb = ((txtF (uptoF y yb 32).1 (uptoF y yb 32).2.1 20).1, (txtF (uptoF y yb 32).1 (uptoF y yb 32).2.1 20).2.1 || !nameB (uptoF y yb 32).2.2, ((uptoF y yb 32).2.2, (txtF (uptoF y yb 32).1 (uptoF y yb 32).2.1 20).2.2))) := rfl
          have HU := Lib.hid (upto_c (HE.out.ext P0.out.x).ml P0.out.rd (by omega) 32)
          have hul := uptoF_len y yb 32
          generalize uptoF y yb 32 = q at HFf HU hul
          obtain ⟨y1, yb1, nm⟩ := q
          dsimp only at HFf HU hul
          have HT2 := Lib.hid (fun v (hv : Ext w v) (h : RdAt v g4 y1 yb1) => text_c HE.out hv hn4 h (by omega) 20 (by omega) (by omega))
          have htl2 := txtF_len y1 yb1 20 (by omega)
          generalize txtF y1 yb1 20 = q at HFf HT2 htl2
          obtain ⟨y2, yb2, tx⟩ := q
          dsimp only at HFf HT2 htl2
          obtain ⟨nb, hnb⟩ : ∃ b, b = nameB nm := ⟨_, rfl⟩
          rw [← hnb] at HFf
          have HNm : Hid (∀ v, Calls Tryd.prog 34 #[S nm] v fun e w' => e = .returned (.bool nb) ∧ Ext v w') := fun v => by rw [hnb]; exact Name_c nm v (by omega)
          obtain ⟨nb2, hnb2⟩ : ∃ x, x = (yb2 || !nb) := ⟨_, rfl⟩
          have HNb := Lib.hid hnb2
          rw [← hnb2] at HFf
          have HF3 : Hid (filsF (b + c) t bd = ((filsF m y2 nb2).1, (filsF m y2 nb2).2.1, (nd ++ od) ++ (nm, tx) :: (filsF m y2 nb2).2.2)) := by rw [Hid, HF2.out, HFf.out]
          clear hnb hnb2 HF2 HFf hfl1 HFi
          obtain ⟨hul1, hul2⟩ := hul
          obtain ⟨htl21, htl22, htl23⟩ := htl2
          go_upto_region 11 with fail
          go_wp2_with fail
          refine HU.out.mono ?_
          rintro e v1 ⟨rfl, q1, q2⟩
          have P1 := Lib.hid (P0.out.read q1 q2)
          clear q1 q2 HU P0
          obtain ⟨gF, hgF⟩ : ∃ g, g = v1.heap.size := ⟨_, rfl⟩
          obtain ⟨v2, hv2⟩ : ∃ u, u = v1.alloc (.cells #[S nm, S []] 45) := ⟨_, rfl⟩
          have CF2 : Hid (Cs v2 gF 45 #[S nm, S []]) := by rw [hv2, hgF]; exact Cs.new _ _ _
          have hgFw : w.heap.size ≤ gF := by rw [hgF]; exact P1.out.x.size
          have hg2F : g2 ≠ gF := by have := P1.out.rs.lt; omega
          have hg4F : g4 ≠ gF := by have := Cs.lt P1.out.rd; omega
          have hg8F : g8 ≠ gF := by have := P1.out.rc.lt; omega
          have hol := P1.out.own_lt
          have P2 : Hid (PAt w v2 g2 g4 g8 y1 yb1 ⟨cA, cc, nA, nc, oA, oc⟩ cs nd od) := by rw [hv2]; exact P1.out.ext ((Only.refl No v1).alloc _)
          obtain ⟨ho1, ho2, ho3⟩ := hol
          have HO1 : Hid (∀ b, (Value.slice cA cs.length cc).ownBlock = some b → ¬ b = gF) := fun b hb e => by have := ho1 b hb; omega
          have HO2 : Hid (∀ b, (Value.slice nA nd.length nc).ownBlock = some b → ¬ b = gF) := fun b hb e => by have := ho2 b hb; omega
          have HO3 : Hid (∀ b, (Value.slice oA od.length oc).ownBlock = some b → ¬ b = gF) := fun b hb e => by have := ho3 b hb; omega
          clear ho1 ho2 ho3 P1
          go_upto_region 12 with fail
          rw [← hv2, ← hgF]
          clear hv2 hgF
          go_wp2_with fail
          refine (HT2.out _ P2.out.x P2.out.rd).mono ?_
          rintro e v3 ⟨rfl, q1, q2⟩
          have P3 := Lib.hid (P2.out.read q1 q2)
          have CF3 := Lib.hid (CF2.out.keep q2 (fun e => hg4F e.symm))
          clear q1 q2 HT2 P2 CF2
          have k0 : v3.cell? ⟨gF, 1, none⟩ = some (S []) := CF3.out.cell 1
          have k1 := CF3.out.frozen 1
          obtain ⟨v4, hv4⟩ : ∃ u, u = v3.setCell ⟨gF, 1, none⟩ (S tx) := ⟨_, rfl⟩
          have CF4 : Hid (Cs v4 gF 45 #[S nm, S tx]) := by rw [hv4]; exact CF3.out.set_ 1 (S tx)
          have P4 : Hid (PAt w v4 g2 g4 g8 y2 yb2 ⟨cA, cc, nA, nc, oA, oc⟩ cs nd od) := by rw [hv4]; exact P3.out.away ((Only.refl _ _).at_ 1 _) hgFw hg2F hg4F hg8F HO1.out HO2.out HO3.out
          clear CF3 P3
          go_upto_region 13 with fail
          rw [← hv4]
          clear hv4 k0 k1
          have r1 : v4.cell? ⟨g4, 1, none⟩ = some (.bool yb2) := Cs.cell P4.out.rd 1
          have n1 : v4.cell? ⟨gF, 0, none⟩ = some (S nm) := CF4.out.cell 0
          cases yb2 with
          | true =>
            have hnb2 : nb2 = true := by rw [HNb.out]; rfl
            have z4 := Cs.frozen P4.out.rd 1
            obtain ⟨v6, hv6⟩ : ∃ u, u = v4.setCell ⟨g4, 1, none⟩ (.bool true) := ⟨_, rfl⟩
            have P6 : Hid (PAt w v6 g2 g4 g8 y2 nb2 ⟨cA, cc, nA, nc, oA, oc⟩ cs nd od) := by rw [hv6, hnb2]; exact P4.out.read (Cs.set_ P4.out.rd 1 (.bool true)) ((Only.refl _ _).at_ 1 _)
            have CF6 : Hid (Cs v6 gF 45 #[S nm, S tx]) := by rw [hv6]; exact CF4.out.far (fun e => hg4F e.symm) _
            clear HNm HNb
            go_upto_region 14 with fail
            rw [← hv6]
            clear hv6 r1 n1 z4 P4 CF4
            by_cases hkb : k < b
            · obtain ⟨e1, e2, e3⟩ := HKo.out (by omega)
              subst e1; subst e2; subst e3
              have g14 : decide ((k : Int) < (b : Int)) = true := by rw [decide_eq_true_iff]; omega
              have y0 : v6.cell? ⟨g8, 1, none⟩ = some (.slice nA nd.length nc) := P6.out.rc.cell 1
              have m0 : v6.cell? ⟨gF, 0, none⟩ = some (S nm) := CF6.out.cell 0
              have m1 : v6.cell? ⟨gF, 1, none⟩ = some (S tx) := CF6.out.cell 1
              have P8 := Lib.hid (P6.out.ext ((Only.refl No v6).alloc (.cells #[S nm, S tx] 45)))
              have hnl : nd.length ≤ 10 := by omega
              go_wp2_with (first | (at_builtin; go_must (refine wpList_append (v := .slice nA nd.length nc) (n := nd.length) (xs := nd.flatMap fileF.enc) rfl fl_ty rfl rfl rfl P8.out.fn.own (rd_one v6 _ [S nm, S tx]) (fl_enc1 [(nm, tx)]) (by omega) ?_); intro A2 c2 w5 hown5 hg5 hb5; have P9 := Lib.hid (P8.out.growN (t := (nm, tx)) rfl hown5 hg5 hb5); have O9 : Only (fun b => (Value.slice nA nd.length nc).ownBlock = some b) (v6.alloc (.cells #[S nm, S tx] 45)) w5 := (Only.refl _ _).grown hg5 fun g hg => .inr hg; have C9 := P8.out.rc.keep O9 (fun e => own_ne_cs P8.out.fn.own P8.out.rc (by decide) _ e rfl); have z1 := C9.frozen 1; have y1 : w5.cell? ⟨g8, 1, none⟩ = some (.slice nA nd.length nc) := C9.cell 1; clear hown5 hg5 hb5 O9 C9) | (refine Mix.wpList_guarded rfl ?_; (repeat' (first | (refine Mix.lex_quiet0 rfl rfl rfl ?_; intro K hK; go_big_quiet_op; go_big_quiet_on) | (refine Mix.lex_quietG rfl rfl rfl (by with_reducible rfl) rfl rfl ?_; intro K hK; go_big_quiet_op; go_big_quiet_on) | ((first | refine Mix.lex_skipT rfl rfl rfl (by with_reducible rfl) ?_ | refine Mix.lex_skipF rfl rfl rfl (by with_reducible rfl) ?_ | refine Mix.lex_skipU rfl rfl rfl (by with_reducible rfl) ?_); simp only [Act.put, List.setIfInBounds_toArray, List.set_cons_succ, List.set_cons_zero]) | (refine Mix.lex_part rfl rfl rfl rfl (fun hq => ?_) (fun hq => ?_) <;> (fail_if_success (guard_hyp hq :ₛ true = true)) <;> (fail_if_success (guard_hyp hq :ₛ false = false)) <;> first | (exfalso; cases hq; done) | (exfalso; simp only [decide_eq_true_eq, decide_eq_false_iff_not, beq_iff_eq, beq_eq_false_iff_ne, ne_eq, Int.not_lt, Int.not_le] at hq; omega) | simp only [Act.put, List.setIfInBounds_toArray, List.set_cons_succ, List.set_cons_zero]))); all_goals (refine Mix.lex_nil ?_)) | (refine Mix.wp_still (by kernel_rfl) (by kernel_rfl) ?_; (repeat' (first | (refine Mix.lex_quiet0 rfl rfl rfl ?_; intro K hK; go_big_quiet_op; go_big_quiet_on) | (refine Mix.lex_quietG rfl rfl rfl (by with_reducible rfl) rfl rfl ?_; intro K hK; go_big_quiet_op; go_big_quiet_on) | ((first | refine Mix.lex_skipT rfl rfl rfl (by with_reducible rfl) ?_ | refine Mix.lex_skipF rfl rfl rfl (by with_reducible rfl) ?_ | refine Mix.lex_skipU rfl rfl rfl (by with_reducible rfl) ?_); simp only [Act.put, List.setIfInBounds_toArray, List.set_cons_succ, List.set_cons_zero]) | (refine Mix.lex_part rfl rfl rfl rfl (fun hq => ?_) (fun hq => ?_) <;> (fail_if_success (guard_hyp hq :ₛ true = true)) <;> (fail_if_success (guard_hyp hq :ₛ false = false)) <;> first | (exfalso; cases hq; done) | (exfalso; simp only [decide_eq_true_eq, decide_eq_false_iff_not, beq_iff_eq, beq_eq_false_iff_ne, ne_eq, Int.not_lt, Int.not_le] at hq; omega) | simp only [Act.put, List.setIfInBounds_toArray, List.set_cons_succ, List.set_cons_zero]))); all_goals (refine Mix.lex_nil ?_)))
              go_roundw
              case rel =>
                refine ⟨k + 1, by omega, by go_num, y2, nb2, A2, none, c2, 0, nd ++ [(nm, tx)], [], P9.out, ?_, fun _ => ⟨rfl, rfl, rfl⟩, fun h => ?_, by omega, fun x hx => ?_, ?_⟩
                · simp only [List.length_append, List.length_cons, List.length_nil] at hkl ⊢; omega
                · simp only [List.length_append, List.length_cons, List.length_nil] at hkl ⊢; omega
                · rw [List.append_nil] at hx
                  rcases List.mem_append.1 hx with hx | hx
                  · exact HFl.out x (by rw [List.append_nil]; exact hx)
                  · simp at hx; rw [hx]; exact ⟨by show nm.length ≤ 5001; omega, by show tx.length ≤ 20; omega⟩
                · rw [hm2, HF3.out]; simp
              case measure => simp [intOf]; omega
            · have g14 : decide ((k : Int) < (b : Int)) = false := by rw [decide_eq_false_iff_not]; omega
              have hnb3 := HKb.out (by omega)
              have y0 : v6.cell? ⟨g8, 2, none⟩ = some (.slice oA od.length oc) := P6.out.rc.cell 2
              have m0 : v6.cell? ⟨gF, 0, none⟩ = some (S nm) := CF6.out.cell 0
              have m1 : v6.cell? ⟨gF, 1, none⟩ = some (S tx) := CF6.out.cell 1
              have P8 := Lib.hid (P6.out.ext ((Only.refl No v6).alloc (.cells #[S nm, S tx] 45)))
              have hnl : od.length ≤ 10 := by omega
              go_wp2_with (first | (at_builtin; go_must (refine wpList_append (v := .slice oA od.length oc) (n := od.length) (xs := od.flatMap fileF.enc) rfl fl_ty rfl rfl rfl P8.out.fo.own (rd_one v6 _ [S nm, S tx]) (fl_enc1 [(nm, tx)]) (by omega) ?_); intro A2 c2 w5 hown5 hg5 hb5; have P9 := Lib.hid (P8.out.growO (t := (nm, tx)) hown5 hg5 hb5); have O9 : Only (fun b => (Value.slice oA od.length oc).ownBlock = some b) (v6.alloc (.cells #[S nm, S tx] 45)) w5 := (Only.refl _ _).grown hg5 fun g hg => .inr hg; have C9 := P8.out.rc.keep O9 (fun e => own_ne_cs P8.out.fo.own P8.out.rc (by decide) _ e rfl); have z1 := C9.frozen 2; have y1 : w5.cell? ⟨g8, 2, none⟩ = some (.slice oA od.length oc) := C9.cell 2; clear hown5 hg5 hb5 O9 C9) | (refine Mix.wpList_guarded rfl ?_; (repeat' (first | (refine Mix.lex_quiet0 rfl rfl rfl ?_; intro K hK; go_big_quiet_op; go_big_quiet_on) | (refine Mix.lex_quietG rfl rfl rfl (by with_reducible rfl) rfl rfl ?_; intro K hK; go_big_quiet_op; go_big_quiet_on) | ((first | refine Mix.lex_skipT rfl rfl rfl (by with_reducible rfl) ?_ | refine Mix.lex_skipF rfl rfl rfl (by with_reducible rfl) ?_ | refine Mix.lex_skipU rfl rfl rfl (by with_reducible rfl) ?_); simp only [Act.put, List.setIfInBounds_toArray, List.set_cons_succ, List.set_cons_zero]) | (refine Mix.lex_part rfl rfl rfl rfl (fun hq => ?_) (fun hq => ?_) <;> (fail_if_success (guard_hyp hq :ₛ true = true)) <;> (fail_if_success (guard_hyp hq :ₛ false = false)) <;> first | (exfalso; cases hq; done) | (exfalso; simp only [decide_eq_true_eq, decide_eq_false_iff_not, beq_iff_eq, beq_eq_false_iff_ne, ne_eq, Int.not_lt, Int.not_le] at hq; omega) | simp only [Act.put, List.setIfInBounds_toArray, List.set_cons_succ, List.set_cons_zero]))); all_goals (refine Mix.lex_nil ?_)) | (refine Mix.wp_still (by kernel_rfl) (by kernel_rfl) ?_; (repeat' (first | (refine Mix.lex_quiet0 rfl rfl rfl ?_; intro K hK; go_big_quiet_op; go_big_quiet_on) | (refine Mix.lex_quietG rfl rfl rfl (by with_reducible rfl) rfl rfl ?_; intro K hK; go_big_quiet_op; go_big_quiet_on) | ((first | refine Mix.lex_skipT rfl rfl rfl (by with_reducible rfl) ?_ | refine Mix.lex_skipF rfl rfl rfl (by with_reducible rfl) ?_ | refine Mix.lex_skipU rfl rfl rfl (by with_reducible rfl) ?_); simp only [Act.put, List.setIfInBounds_toArray, List.set_cons_succ, List.set_cons_zero]) | (refine Mix.lex_part rfl rfl rfl rfl (fun hq => ?_) (fun hq => ?_) <;> (fail_if_success (guard_hyp hq :ₛ true = true)) <;> (fail_if_success (guard_hyp hq :ₛ false = false)) <;> first | (exfalso; cases hq; done) | (exfalso; simp only [decide_eq_true_eq, decide_eq_false_iff_not, beq_iff_eq, beq_eq_false_iff_ne, ne_eq, Int.not_lt, Int.not_le] at hq; omega) | simp only [Act.put, List.setIfInBounds_toArray, List.set_cons_succ, List.set_cons_zero]))); all_goals (refine Mix.lex_nil ?_)))
              go_roundw
              case rel =>
                refine ⟨k + 1, by omega, by go_num, y2, nb2, nA, A2, nc, c2, nd, od ++ [(nm, tx)], P9.out, ?_, fun h => absurd h (by omega), fun _ => HKb.out (by omega), by omega, fun x hx => ?_, ?_⟩
                · simp only [List.length_append, List.length_cons, List.length_nil] at hkl ⊢; omega
                · rw [← List.append_assoc] at hx
                  rcases List.mem_append.1 hx with hx | hx
                  · exact HFl.out x hx
                  · simp at hx; rw [hx]; exact ⟨by show nm.length ≤ 5001; omega, by show tx.length ≤ 20; omega⟩
                · rw [hm2, HF3.out]; simp
              case measure => simp [intOf]; omega
          | false =>
            cases nb with
            | true =>
              have hnb2 : nb2 = false := by rw [HNb.out]; rfl
              have n1' : ∀ ξ : X v4 (fun b => b = g4), ξ.v.cell? ⟨gF, 0, none⟩ = some (S nm) := CF4.out.x (fun e => hg4F e.symm) 0
              refine Mix.wp_plain [4, 8, 13] (Cl v4 (fun b => b = g4)) (Cl.of (Only.refl _ _)) ?_
              (repeat' (first | (refine Mix.lex_quiet0 rfl rfl rfl ?_; intro K hK; go_big_quiet_op; go_big_quiet_on) | (refine Mix.lex_quietG rfl rfl rfl (by with_reducible rfl) rfl rfl ?_; intro K hK; go_big_quiet_op; go_big_quiet_on) | ((first | refine Mix.lex_skipT rfl rfl rfl (by with_reducible rfl) ?_ | refine Mix.lex_skipF rfl rfl rfl (by with_reducible rfl) ?_ | refine Mix.lex_skipU rfl rfl rfl (by with_reducible rfl) ?_); simp only [Act.put, List.setIfInBounds_toArray, List.set_cons_succ, List.set_cons_zero]) | (refine Mix.lex_part rfl rfl rfl rfl (fun hq => ?_) (fun hq => ?_) <;> (fail_if_success (guard_hyp hq :ₛ true = true)) <;> (fail_if_success (guard_hyp hq :ₛ false = false)) <;> first | (exfalso; cases hq; done) | (exfalso; simp only [decide_eq_true_eq, decide_eq_false_iff_not, beq_iff_eq, beq_eq_false_iff_ne, ne_eq, Int.not_lt, Int.not_le] at hq; omega) | simp only [Act.put, List.setIfInBounds_toArray, List.set_cons_succ, List.set_cons_zero])))
              ((first | refine Mix.lex_goes0 rfl rfl ?_ | refine Mix.lex_goesG rfl rfl rfl (by with_reducible rfl) rfl ?_); intro K hK; go_simp)
              refine hK _ _ (fun _ => Cl.of (Only.refl _ _)) ?_
              clear hK K
              simp only [Act.put, List.setIfInBounds_toArray, List.set_cons_succ, List.set_cons_zero]
              (repeat' (first | (refine Mix.lex_quiet0 rfl rfl rfl ?_; intro K hK; go_big_quiet_op; go_big_quiet_on) | (refine Mix.lex_quietG rfl rfl rfl (by with_reducible rfl) rfl rfl ?_; intro K hK; go_big_quiet_op; go_big_quiet_on) | ((first | refine Mix.lex_skipT rfl rfl rfl (by with_reducible rfl) ?_ | refine Mix.lex_skipF rfl rfl rfl (by with_reducible rfl) ?_ | refine Mix.lex_skipU rfl rfl rfl (by with_reducible rfl) ?_); simp only [Act.put, List.setIfInBounds_toArray, List.set_cons_succ, List.set_cons_zero]) | (refine Mix.lex_part rfl rfl rfl rfl (fun hq => ?_) (fun hq => ?_) <;> (fail_if_success (guard_hyp hq :ₛ true = true)) <;> (fail_if_success (guard_hyp hq :ₛ false = false)) <;> first | (exfalso; cases hq; done) | (exfalso; simp only [decide_eq_true_eq, decide_eq_false_iff_not, beq_iff_eq, beq_eq_false_iff_ne, ne_eq, Int.not_lt, Int.not_le] at hq; omega) | simp only [Act.put, List.setIfInBounds_toArray, List.set_cons_succ, List.set_cons_zero])))
              ((first | refine Mix.lex_goes0 rfl rfl ?_ | refine Mix.lex_goesG rfl rfl rfl (by with_reducible rfl) rfl ?_); intro K hK; go_simp)
              refine (HNm.out _).mono ?_
              rintro e v5 ⟨rfl, hu⟩
              have P5 := Lib.hid (P4.out.ext hu)
              have CF5 := Lib.hid (CF4.out.keep hu id)
              have O5 : Hid (Ext v4 v5) := hu
              refine ⟨_, rfl, hK _ _ (fun _ => Cl.of hu.any) ?_⟩
              clear hK K hu r1 n1 n1' HNm
              simp only [Act.put, List.setIfInBounds_toArray, List.set_cons_succ, List.set_cons_zero]
              (repeat' (first | (refine Mix.lex_quiet0 rfl rfl rfl ?_; intro K hK; go_big_quiet_op; go_big_quiet_on) | (refine Mix.lex_quietG rfl rfl rfl (by with_reducible rfl) rfl rfl ?_; intro K hK; go_big_quiet_op; go_big_quiet_on) | ((first | refine Mix.lex_skipT rfl rfl rfl (by with_reducible rfl) ?_ | refine Mix.lex_skipF rfl rfl rfl (by with_reducible rfl) ?_ | refine Mix.lex_skipU rfl rfl rfl (by with_reducible rfl) ?_); simp only [Act.put, List.setIfInBounds_toArray, List.set_cons_succ, List.set_cons_zero]) | (refine Mix.lex_part rfl rfl rfl rfl (fun hq => ?_) (fun hq => ?_) <;> (fail_if_success (guard_hyp hq :ₛ true = true)) <;> (fail_if_success (guard_hyp hq :ₛ false = false)) <;> first | (exfalso; cases hq; done) | (exfalso; simp only [decide_eq_true_eq, decide_eq_false_iff_not, beq_iff_eq, beq_eq_false_iff_ne, ne_eq, Int.not_lt, Int.not_le] at hq; omega) | simp only [Act.put, List.setIfInBounds_toArray, List.set_cons_succ, List.set_cons_zero])))
              have z5 := Cs.frozen P5.out.rd 1
              have r5 : v5.cell? ⟨g4, 1, none⟩ = some (.bool false) := Cs.cell P5.out.rd 1
              obtain ⟨v6, hv6⟩ : ∃ u, u = v5.setCell ⟨g4, 1, none⟩ (.bool false) := ⟨_, rfl⟩
              have P6 : Hid (PAt w v6 g2 g4 g8 y2 nb2 ⟨cA, cc, nA, nc, oA, oc⟩ cs nd od) := by rw [hv6, hnb2]; exact P5.out.read (Cs.set_ P5.out.rd 1 (.bool false)) ((Only.refl _ _).at_ 1 _)
              have CF6 : Hid (Cs v6 gF 45 #[S nm, S tx]) := by rw [hv6]; exact CF5.out.far (fun e => hg4F e.symm) _
              have O6 : Hid (Only (fun b => b = g4) v4 v6) := by rw [hv6]; exact O5.out.any.trans ((Only.refl _ _).at_ 1 _) fun _ _ h => h
              ((first | refine Mix.lex_goes0 rfl rfl ?_ | refine Mix.lex_goesG rfl rfl rfl (by with_reducible rfl) rfl ?_); intro K hK; go_simp)
              rw [← hv6]
              refine hK _ _ (fun _ => Cl.of O6.out) ?_
              clear hK K z5 r5 hv6 P5 CF5 P4 CF4 HNb O5 O6
              simp only [Act.put, List.setIfInBounds_toArray, List.set_cons_succ, List.set_cons_zero]
              refine Mix.lex_nil ?_
              by_cases hkb : k < b
              · obtain ⟨e1, e2, e3⟩ := HKo.out (by omega)
                subst e1; subst e2; subst e3
                have g14 : decide ((k : Int) < (b : Int)) = true := by rw [decide_eq_true_iff]; omega
                have y0 : v6.cell? ⟨g8, 1, none⟩ = some (.slice nA nd.length nc) := P6.out.rc.cell 1
                have m0 : v6.cell? ⟨gF, 0, none⟩ = some (S nm) := CF6.out.cell 0
                have m1 : v6.cell? ⟨gF, 1, none⟩ = some (S tx) := CF6.out.cell 1
                have P8 := Lib.hid (P6.out.ext ((Only.refl No v6).alloc (.cells #[S nm, S tx] 45)))
                have hnl : nd.length ≤ 10 := by omega
                go_wp2_with (first | (at_builtin; go_must (refine wpList_append (v := .slice nA nd.length nc) (n := nd.length) (xs := nd.flatMap fileF.enc) rfl fl_ty rfl rfl rfl P8.out.fn.own (rd_one v6 _ [S nm, S tx]) (fl_enc1 [(nm, tx)]) (by omega) ?_); intro A2 c2 w5 hown5 hg5 hb5; have P9 := Lib.hid (P8.out.growN (t := (nm, tx)) rfl hown5 hg5 hb5); have O9 : Only (fun b => (Value.slice nA nd.length nc).ownBlock = some b) (v6.alloc (.cells #[S nm, S tx] 45)) w5 := (Only.refl _ _).grown hg5 fun g hg => .inr hg; have C9 := P8.out.rc.keep O9 (fun e => own_ne_cs P8.out.fn.own P8.out.rc (by decide) _ e rfl); have z1 := C9.frozen 1; have y1 : w5.cell? ⟨g8, 1, none⟩ = some (.slice nA nd.length nc) := C9.cell 1; clear hown5 hg5 hb5 O9 C9) | (refine Mix.wpList_guarded rfl ?_; (repeat' (first | (refine Mix.lex_quiet0 rfl rfl rfl ?_; intro K hK; go_big_quiet_op; go_big_quiet_on) | (refine Mix.lex_quietG rfl rfl rfl (by with_reducible rfl) rfl rfl ?_; intro K hK; go_big_quiet_op; go_big_quiet_on) | ((first | refine Mix.lex_skipT rfl rfl rfl (by with_reducible rfl) ?_ | refine Mix.lex_skipF rfl rfl rfl (by with_reducible rfl) ?_ | refine Mix.lex_skipU rfl rfl rfl (by with_reducible rfl) ?_); simp only [Act.put, List.setIfInBounds_toArray, List.set_cons_succ, List.set_cons_zero]) | (refine Mix.lex_part rfl rfl rfl rfl (fun hq => ?_) (fun hq => ?_) <;> (fail_if_success (guard_hyp hq :ₛ true = true)) <;> (fail_if_success (guard_hyp hq :ₛ false = false)) <;> first | (exfalso; cases hq; done) | (exfalso; simp only [decide_eq_true_eq, decide_eq_false_iff_not, beq_iff_eq, beq_eq_false_iff_ne, ne_eq, Int.not_lt, Int.not_le] at hq; omega) | simp only [Act.put, List.setIfInBounds_toArray, List.set_cons_succ, List.set_cons_zero]))); all_goals (refine Mix.lex_nil ?_)) | (refine Mix.wp_still (by kernel_rfl) (by kernel_rfl) ?_; (repeat' (first | (refine Mix.lex_quiet0 rfl rfl rfl ?_; intro K hK; go_big_quiet_op; go_big_quiet_on) | (refine Mix.lex_quietG rfl rfl rfl (by with_reducible rfl) rfl rfl ?_; intro K hK; go_big_quiet_op; go_big_quiet_on) | ((first | refine Mix.lex_skipT rfl rfl rfl (by with_reducible rfl) ?_ | refine Mix.lex_skipF rfl rfl rfl (by with_reducible rfl) ?_ | refine Mix.lex_skipU rfl rfl rfl (by with_reducible rfl) ?_); simp only [Act.put, List.setIfInBounds_toArray, List.set_cons_succ, List.set_cons_zero]) | (refine Mix.lex_part rfl rfl rfl rfl (fun hq => ?_) (fun hq => ?_) <;> (fail_if_success (guard_hyp hq :ₛ true = true)) <;> (fail_if_success (guard_hyp hq :ₛ false = false)) <;> first | (exfalso; cases hq; done) | (exfalso; simp only [decide_eq_true_eq, decide_eq_false_iff_not, beq_iff_eq, beq_eq_false_iff_ne, ne_eq, Int.not_lt, Int.not_le] at hq; omega) | simp only [Act.put, List.setIfInBounds_toArray, List.set_cons_succ, List.set_cons_zero]))); all_goals (refine Mix.lex_nil ?_)))
                go_roundw
                case rel =>
                  refine ⟨k + 1, by omega, by go_num, y2, nb2, A2, none, c2, 0, nd ++ [(nm, tx)], [], P9.out, ?_, fun _ => ⟨rfl, rfl, rfl⟩, fun h => ?_, by omega, fun x hx => ?_, ?_⟩
                  · simp only [List.length_append, List.length_cons, List.length_nil] at hkl ⊢; omega
                  · simp only [List.length_append, List.length_cons, List.length_nil] at hkl ⊢; omega
                  · rw [List.append_nil] at hx
                    rcases List.mem_append.1 hx with hx | hx
                    · exact HFl.out x (by rw [List.append_nil]; exact hx)
                    · simp at hx; rw [hx]; exact ⟨by show nm.length ≤ 5001; omega, by show tx.length ≤ 20; omega⟩
                  · rw [hm2, HF3.out]; simp
                case measure => simp [intOf]; omega
              · have g14 : decide ((k : Int) < (b : Int)) = false := by rw [decide_eq_false_iff_not]; omega
                have hnb3 := HKb.out (by omega)
                have y0 : v6.cell? ⟨g8, 2, none⟩ = some (.slice oA od.length oc) := P6.out.rc.cell 2
                have m0 : v6.cell? ⟨gF, 0, none⟩ = some (S nm) := CF6.out.cell 0
                have m1 : v6.cell? ⟨gF, 1, none⟩ = some (S tx) := CF6.out.cell 1
                have P8 := Lib.hid (P6.out.ext ((Only.refl No v6).alloc (.cells #[S nm, S tx] 45)))
                have hnl : od.length ≤ 10 := by omega
                go_wp2_with (first | (at_builtin; go_must (refine wpList_append (v := .slice oA od.length oc) (n := od.length) (xs := od.flatMap fileF.enc) rfl fl_ty rfl rfl rfl P8.out.fo.own (rd_one v6 _ [S nm, S tx]) (fl_enc1 [(nm, tx)]) (by omega) ?_); intro A2 c2 w5 hown5 hg5 hb5; have P9 := Lib.hid (P8.out.growO (t := (nm, tx)) hown5 hg5 hb5); have O9 : Only (fun b => (Value.slice oA od.length oc).ownBlock = some b) (v6.alloc (.cells #[S nm, S tx] 45)) w5 := (Only.refl _ _).grown hg5 fun g hg => .inr hg; have C9 := P8.out.rc.keep O9 (fun e => own_ne_cs P8.out.fo.own P8.out.rc (by decide) _ e rfl); have z1 := C9.frozen 2; have y1 : w5.cell? ⟨g8, 2, none⟩ = some (.slice oA od.length oc) := C9.cell 2; clear hown5 hg5 hb5 O9 C9) | (refine Mix.wpList_guarded rfl ?_; (repeat' (first | (refine Mix.lex_quiet0 rfl rfl rfl ?_; intro K hK; go_big_quiet_op; go_big_quiet_on) | (refine Mix.lex_quietG rfl rfl rfl (by with_reducible rfl) rfl rfl ?_; intro K hK; go_big_quiet_op; go_big_quiet_on) | ((first | refine Mix.lex_skipT rfl rfl rfl (by with_reducible rfl) ?_ | refine Mix.lex_skipF rfl rfl rfl (by with_reducible rfl) ?_ | refine Mix.lex_skipU rfl rfl rfl (by with_reducible rfl) ?_); simp only [Act.put, List.setIfInBounds_toArray, List.set_cons_succ, List.set_cons_zero]) | (refine Mix.lex_part rfl rfl rfl rfl (fun hq => ?_) (fun hq => ?_) <;> (fail_if_success (guard_hyp hq :ₛ true = true)) <;> (fail_if_success (guard_hyp hq :ₛ false = false)) <;> first | (exfalso; cases hq; done) | (exfalso; simp only [decide_eq_true_eq, decide_eq_false_iff_not, beq_iff_eq, beq_eq_false_iff_ne, ne_eq, Int.not_lt, Int.not_le] at hq; omega) | simp only [Act.put, List.setIfInBounds_toArray, List.set_cons_succ, List.set_cons_zero]))); all_goals (refine Mix.lex_nil ?_)) | (refine Mix.wp_still (by kernel_rfl) (by kernel_rfl) ?_; (repeat' (first | (refine Mix.lex_quiet0 rfl rfl rfl ?_; intro K hK; go_big_quiet_op; go_big_quiet_on) | (refine Mix.lex_quietG rfl rfl rfl (by with_reducible rfl) rfl rfl ?_; intro K hK; go_big_quiet_op; go_big_quiet_on) | ((first | refine Mix.lex_skipT rfl rfl rfl (by with_reducible rfl) ?_ | refine Mix.lex_skipF rfl rfl rfl (by with_reducible rfl) ?_ | refine Mix.lex_skipU rfl rfl rfl (by with_reducible rfl) ?_); simp only [Act.put, List.setIfInBounds_toArray, List.set_cons_succ, List.set_cons_zero]) | (refine Mix.lex_part rfl rfl rfl rfl (fun hq => ?_) (fun hq => ?_) <;> (fail_if_success (guard_hyp hq :ₛ true = true)) <;> (fail_if_success (guard_hyp hq :ₛ false = false)) <;> first | (exfalso; cases hq; done) | (exfalso; simp only [decide_eq_true_eq, decide_eq_false_iff_not, beq_iff_eq, beq_eq_false_iff_ne, ne_eq, Int.not_lt, Int.not_le] at hq; omega) | simp only [Act.put, List.setIfInBounds_toArray, List.set_cons_succ, List.set_cons_zero]))); all_goals (refine Mix.lex_nil ?_)))
                go_roundw
                case rel =>
                  refine ⟨k + 1, by omega, by go_num, y2, nb2, nA, A2, nc, c2, nd, od ++ [(nm, tx)], P9.out, ?_, fun h => absurd h (by omega), fun _ => HKb.out (by omega), by omega, fun x hx => ?_, ?_⟩
                  · simp only [List.length_append, List.length_cons, List.length_nil] at hkl ⊢; omega
                  · rw [← List.append_assoc] at hx
                    rcases List.mem_append.1 hx with hx | hx
                    · exact HFl.out x hx
                    · simp at hx; rw [hx]; exact ⟨by show nm.length ≤ 5001; omega, by show tx.length ≤ 20; omega⟩
                  · rw [hm2, HF3.out]; simp
                case measure => simp [intOf]; omega
            | false =>
              have hnb2 : nb2 = true := by rw [HNb.out]; rfl
              have n1' : ∀ ξ : X v4 (fun b => b = g4), ξ.v.cell? ⟨gF, 0, none⟩ = some (S nm) := CF4.out.x (fun e => hg4F e.symm) 0
              refine Mix.wp_plain [4, 8, 13] (Cl v4 (fun b => b = g4)) (Cl.of (Only.refl _ _)) ?_
              (repeat' (first | (refine Mix.lex_quiet0 rfl rfl rfl ?_; intro K hK; go_big_quiet_op; go_big_quiet_on) | (refine Mix.lex_quietG rfl rfl rfl (by with_reducible rfl) rfl rfl ?_; intro K hK; go_big_quiet_op; go_big_quiet_on) | ((first | refine Mix.lex_skipT rfl rfl rfl (by with_reducible rfl) ?_ | refine Mix.lex_skipF rfl rfl rfl (by with_reducible rfl) ?_ | refine Mix.lex_skipU rfl rfl rfl (by with_reducible rfl) ?_); simp only [Act.put, List.setIfInBounds_toArray, List.set_cons_succ, List.set_cons_zero]) | (refine Mix.lex_part rfl rfl rfl rfl (fun hq => ?_) (fun hq => ?_) <;> (fail_if_success (guard_hyp hq :ₛ true = true)) <;> (fail_if_success (guard_hyp hq :ₛ false = false)) <;> first | (exfalso; cases hq; done) | (exfalso; simp only [decide_eq_true_eq, decide_eq_false_iff_not, beq_iff_eq, beq_eq_false_iff_ne, ne_eq, Int.not_lt, Int.not_le] at hq; omega) | simp only [Act.put, List.setIfInBounds_toArray, List.set_cons_succ, List.set_cons_zero])))
              ((first | refine Mix.lex_goes0 rfl rfl ?_ | refine Mix.lex_goesG rfl rfl rfl (by with_reducible rfl) rfl ?_); intro K hK; go_simp)
              refine hK _ _ (fun _ => Cl.of (Only.refl _ _)) ?_
              clear hK K
              simp only [Act.put, List.setIfInBounds_toArray, List.set_cons_succ, List.set_cons_zero]
              (repeat' (first | (refine Mix.lex_quiet0 rfl rfl rfl ?_; intro K hK; go_big_quiet_op; go_big_quiet_on) | (refine Mix.lex_quietG rfl rfl rfl (by with_reducible rfl) rfl rfl ?_; intro K hK; go_big_quiet_op; go_big_quiet_on) | ((first | refine Mix.lex_skipT rfl rfl rfl (by with_reducible rfl) ?_ | refine Mix.lex_skipF rfl rfl rfl (by with_reducible rfl) ?_ | refine Mix.lex_skipU rfl rfl rfl (by with_reducible rfl) ?_); simp only [Act.put, List.setIfInBounds_toArray, List.set_cons_succ, List.set_cons_zero]) | (refine Mix.lex_part rfl rfl rfl rfl (fun hq => ?_) (fun hq => ?_) <;> (fail_if_success (guard_hyp hq :ₛ true = true)) <;> (fail_if_success (guard_hyp hq :ₛ false = false)) <;> first | (exfalso; cases hq; done) | (exfalso; simp only [decide_eq_true_eq, decide_eq_false_iff_not, beq_iff_eq, beq_eq_false_iff_ne, ne_eq, Int.not_lt, Int.not_le] at hq; omega) | simp only [Act.put, List.setIfInBounds_toArray, List.set_cons_succ, List.set_cons_zero])))
              ((first | refine Mix.lex_goes0 rfl rfl ?_ | refine Mix.lex_goesG rfl rfl rfl (by with_reducible rfl) rfl ?_); intro K hK; go_simp)
              refine (HNm.out _).mono ?_
              rintro e v5 ⟨rfl, hu⟩
              have P5 := Lib.hid (P4.out.ext hu)
              have CF5 := Lib.hid (CF4.out.keep hu id)
              have O5 : Hid (Ext v4 v5) := hu
              refine ⟨_, rfl, hK _ _ (fun _ => Cl.of hu.any) ?_⟩
              clear hK K hu r1 n1 n1' HNm
              simp only [Act.put, List.setIfInBounds_toArray, List.set_cons_succ, List.set_cons_zero]
              (repeat' (first | (refine Mix.lex_quiet0 rfl rfl rfl ?_; intro K hK; go_big_quiet_op; go_big_quiet_on) | (refine Mix.lex_quietG rfl rfl rfl (by with_reducible rfl) rfl rfl ?_; intro K hK; go_big_quiet_op; go_big_quiet_on) | ((first | refine Mix.lex_skipT rfl rfl rfl (by with_reducible rfl) ?_ | refine Mix.lex_skipF rfl rfl rfl (by with_reducible rfl) ?_ | refine Mix.lex_skipU rfl rfl rfl (by with_reducible rfl) ?_); simp only [Act.put, List.setIfInBounds_toArray, List.set_cons_succ, List.set_cons_zero]) | (refine Mix.lex_part rfl rfl rfl rfl (fun hq => ?_) (fun hq => ?_) <;> (fail_if_success (guard_hyp hq :ₛ true = true)) <;> (fail_if_success (guard_hyp hq :ₛ false = false)) <;> first | (exfalso; cases hq; done) | (exfalso; simp only [decide_eq_true_eq, decide_eq_false_iff_not, beq_iff_eq, beq_eq_false_iff_ne, ne_eq, Int.not_lt, Int.not_le] at hq; omega) | simp only [Act.put, List.setIfInBounds_toArray, List.set_cons_succ, List.set_cons_zero])))
              have z5 := Cs.frozen P5.out.rd 1
              have r5 : v5.cell? ⟨g4, 1, none⟩ = some (.bool false) := Cs.cell P5.out.rd 1
              obtain ⟨v6, hv6⟩ : ∃ u, u = v5.setCell ⟨g4, 1, none⟩ (.bool true) := ⟨_, rfl⟩
              have P6 : Hid (PAt w v6 g2 g4 g8 y2 nb2 ⟨cA, cc, nA, nc, oA, oc⟩ cs nd od) := by rw [hv6, hnb2]; exact P5.out.read (Cs.set_ P5.out.rd 1 (.bool true)) ((Only.refl _ _).at_ 1 _)
              have CF6 : Hid (Cs v6 gF 45 #[S nm, S tx]) := by rw [hv6]; exact CF5.out.far (fun e => hg4F e.symm) _
              have O6 : Hid (Only (fun b => b = g4) v4 v6) := by rw [hv6]; exact O5.out.any.trans ((Only.refl _ _).at_ 1 _) fun _ _ h => h
              ((first | refine Mix.lex_goes0 rfl rfl ?_ | refine Mix.lex_goesG rfl rfl rfl (by with_reducible rfl) rfl ?_); intro K hK; go_simp)
              rw [← hv6]
              refine hK _ _ (fun _ => Cl.of O6.out) ?_
              clear hK K z5 r5 hv6 P5 CF5 P4 CF4 HNb O5 O6
              simp only [Act.put, List.setIfInBounds_toArray, List.set_cons_succ, List.set_cons_zero]
              refine Mix.lex_nil ?_
              by_cases hkb : k < b
              · obtain ⟨e1, e2, e3⟩ := HKo.out (by omega)
                subst e1; subst e2; subst e3
                have g14 : decide ((k : Int) < (b : Int)) = true := by rw [decide_eq_true_iff]; omega
                have y0 : v6.cell? ⟨g8, 1, none⟩ = some (.slice nA nd.length nc) := P6.out.rc.cell 1
                have m0 : v6.cell? ⟨gF, 0, none⟩ = some (S nm) := CF6.out.cell 0
                have m1 : v6.cell? ⟨gF, 1, none⟩ = some (S tx) := CF6.out.cell 1
                have P8 := Lib.hid (P6.out.ext ((Only.refl No v6).alloc (.cells #[S nm, S tx] 45)))
                have hnl : nd.length ≤ 10 := by omega
                go_wp2_with (first | (at_builtin; go_must (refine wpList_append (v := .slice nA nd.length nc) (n := nd.length) (xs := nd.flatMap fileF.enc) rfl fl_ty rfl rfl rfl P8.out.fn.own (rd_one v6 _ [S nm, S tx]) (fl_enc1 [(nm, tx)]) (by omega) ?_); intro A2 c2 w5 hown5 hg5 hb5; have P9 := Lib.hid (P8.out.growN (t := (nm, tx)) rfl hown5 hg5 hb5); have O9 : Only (fun b => (Value.slice nA nd.length nc).ownBlock = some b) (v6.alloc (.cells #[S nm, S tx] 45)) w5 := (Only.refl _ _).grown hg5 fun g hg => .inr hg; have C9 := P8.out.rc.keep O9 (fun e => own_ne_cs P8.out.fn.own P8.out.rc (by decide) _ e rfl); have z1 := C9.frozen 1; have y1 : w5.cell? ⟨g8, 1, none⟩ = some (.slice nA nd.length nc) := C9.cell 1; clear hown5 hg5 hb5 O9 C9) | (refine Mix.wpList_guarded rfl ?_; (repeat' (first | (refine Mix.lex_quiet0 rfl rfl rfl ?_; intro K hK; go_big_quiet_op; go_big_quiet_on) | (refine Mix.lex_quietG rfl rfl rfl (by with_reducible rfl) rfl rfl ?_; intro K hK; go_big_quiet_op; go_big_quiet_on) | ((first | refine Mix.lex_skipT rfl rfl rfl (by with_reducible rfl) ?_ | refine Mix.lex_skipF rfl rfl rfl (by with_reducible rfl) ?_ | refine Mix.lex_skipU rfl rfl rfl (by with_reducible rfl) ?_); simp only [Act.put, List.setIfInBounds_toArray, List.set_cons_succ, List.set_cons_zero]) | (refine Mix.lex_part rfl rfl rfl rfl (fun hq => ?_) (fun hq => ?_) <;> (fail_if_success (guard_hyp hq :ₛ true = true)) <;> (fail_if_success (guard_hyp hq :ₛ false = false)) <;> first | (exfalso; cases hq; done) | (exfalso; simp only [decide_eq_true_eq, decide_eq_false_iff_not, beq_iff_eq, beq_eq_false_iff_ne, ne_eq, Int.not_lt, Int.not_le] at hq; omega) | simp only [Act.put, List.setIfInBounds_toArray, List.set_cons_succ, List.set_cons_zero]))); all_goals (refine Mix.lex_nil ?_)) | (refine Mix.wp_still (by kernel_rfl) (by kernel_rfl) ?_; (repeat' (first | (refine Mix.lex_quiet0 rfl rfl rfl ?_; intro K hK; go_big_quiet_op; go_big_quiet_on) | (refine Mix.lex_quietG rfl rfl rfl (by with_reducible rfl) rfl rfl ?_; intro K hK; go_big_quiet_op; go_big_quiet_on) | ((first | refine Mix.lex_skipT rfl rfl rfl (by with_reducible rfl) ?_ | refine Mix.lex_skipF rfl rfl rfl (by with_reducible rfl) ?_ | refine Mix.lex_skipU rfl rfl rfl (by with_reducible rfl) ?_); simp only [Act.put, List.setIfInBounds_toArray, List.set_cons_succ, List.set_cons_zero]) | (refine Mix.lex_part rfl rfl rfl rfl (fun hq => ?_) (fun hq => ?_) <;> (fail_if_success (guard_hyp hq :ₛ true = true)) <;> (fail_if_success (guard_hyp hq :ₛ false = false)) <;> first | (exfalso; cases hq; done) | (exfalso; simp only [decide_eq_true_eq, decide_eq_false_iff_not, beq_iff_eq, beq_eq_false_iff_ne, ne_eq, Int.not_lt, Int.not_le] at hq; omega) | simp only [Act.put, List.setIfInBounds_toArray, List.set_cons_succ, List.set_cons_zero]))); all_goals (refine Mix.lex_nil ?_)))
                go_roundw
                case rel =>
                  refine ⟨k + 1, by omega, by go_num, y2, nb2, A2, none, c2, 0, nd ++ [(nm, tx)], [], P9.out, ?_, fun _ => ⟨rfl, rfl, rfl⟩, fun h => ?_, by omega, fun x hx => ?_, ?_⟩
                  · simp only [List.length_append, List.length_cons, List.length_nil] at hkl ⊢; omega
                  · simp only [List.length_append, List.length_cons, List.length_nil] at hkl ⊢; omega
                  · rw [List.append_nil] at hx
                    rcases List.mem_append.1 hx with hx | hx
                    · exact HFl.out x (by rw [List.append_nil]; exact hx)
                    · simp at hx; rw [hx]; exact ⟨by show nm.length ≤ 5001; omega, by show tx.length ≤ 20; omega⟩
                  · rw [hm2, HF3.out]; simp
                case measure => simp [intOf]; omega
              · have g14 : decide ((k : Int) < (b : Int)) = false := by rw [decide_eq_false_iff_not]; omega
                have hnb3 := HKb.out (by omega)
                have y0 : v6.cell? ⟨g8, 2, none⟩ = some (.slice oA od.length oc) := P6.out.rc.cell 2
                have m0 : v6.cell? ⟨gF, 0, none⟩ = some (S nm) := CF6.out.cell 0
                have m1 : v6.cell? ⟨gF, 1, none⟩ = some (S tx) := CF6.out.cell 1
                have P8 := Lib.hid (P6.out.ext ((Only.refl No v6).alloc (.cells #[S nm, S tx] 45)))
                have hnl : od.length ≤ 10 := by omega
                go_wp2_with (first | (at_builtin; go_must (refine wpList_append (v := .slice oA od.length oc) (n := od.length) (xs := od.flatMap fileF.enc) rfl fl_ty rfl rfl rfl P8.out.fo.own (rd_one v6 _ [S nm, S tx]) (fl_enc1 [(nm, tx)]) (by omega) ?_); intro A2 c2 w5 hown5 hg5 hb5; have P9 := Lib.hid (P8.out.growO (t := (nm, tx)) hown5 hg5 hb5); have O9 : Only (fun b => (Value.slice oA od.length oc).ownBlock = some b) (v6.alloc (.cells #[S nm, S tx] 45)) w5 := (Only.refl _ _).grown hg5 fun g hg => .inr hg; have C9 := P8.out.rc.keep O9 (fun e => own_ne_cs P8.out.fo.own P8.out.rc (by decide) _ e rfl); have z1 := C9.frozen 2; have y1 : w5.cell? ⟨g8, 2, none⟩ = some (.slice oA od.length oc) := C9.cell 2; clear hown5 hg5 hb5 O9 C9) | (refine Mix.wpList_guarded rfl ?_; (repeat' (first | (refine Mix.lex_quiet0 rfl rfl rfl ?_; intro K hK; go_big_quiet_op; go_big_quiet_on) | (refine Mix.lex_quietG rfl rfl rfl (by with_reducible rfl) rfl rfl ?_; intro K hK; go_big_quiet_op; go_big_quiet_on) | ((first | refine Mix.lex_skipT rfl rfl rfl (by with_reducible rfl) ?_ | refine Mix.lex_skipF rfl rfl rfl (by with_reducible rfl) ?_ | refine Mix.lex_skipU rfl rfl rfl (by with_reducible rfl) ?_); simp only [Act.put, List.setIfInBounds_toArray, List.set_cons_succ, List.set_cons_zero]) | (refine Mix.lex_part rfl rfl rfl rfl (fun hq => ?_) (fun hq => ?_) <;> (fail_if_success (guard_hyp hq :ₛ true = true)) <;> (fail_if_success (guard_hyp hq :ₛ false = false)) <;> first | (exfalso; cases hq; done) | (exfalso; simp only [decide_eq_true_eq, decide_eq_false_iff_not, beq_iff_eq, beq_eq_false_iff_ne, ne_eq, Int.not_lt, Int.not_le] at hq; omega) | simp only [Act.put, List.setIfInBounds_toArray, List.set_cons_succ, List.set_cons_zero]))); all_goals (refine Mix.lex_nil ?_)) | (refine Mix.wp_still (by kernel_rfl) (by kernel_rfl) ?_; (repeat' (first | (refine Mix.lex_quiet0 rfl rfl rfl ?_; intro K hK; go_big_quiet_op; go_big_quiet_on) | (refine Mix.lex_quietG rfl rfl rfl (by with_reducible rfl) rfl rfl ?_; intro K hK; go_big_quiet_op; go_big_quiet_on) | ((first | refine Mix.lex_skipT rfl rfl rfl (by with_reducible rfl) ?_ | refine Mix.lex_skipF rfl rfl rfl (by with_reducible rfl) ?_ | refine Mix.lex_skipU rfl rfl rfl (by with_reducible rfl) ?_); simp only [Act.put, List.setIfInBounds_toArray, List.set_cons_succ, List.set_cons_zero]) | (refine Mix.lex_part rfl rfl rfl rfl (fun hq => ?_) (fun hq => ?_) <;> (fail_if_success (guard_hyp hq :ₛ true = true)) <;> (fail_if_success (guard_hyp hq :ₛ false = false)) <;> first | (exfalso; cases hq; done) | (exfalso; simp only [decide_eq_true_eq, decide_eq_false_iff_not, beq_iff_eq, beq_eq_false_iff_ne, ne_eq, Int.not_lt, Int.not_le] at hq; omega) | simp only [Act.put, List.setIfInBounds_toArray, List.set_cons_succ, List.set_cons_zero]))); all_goals (refine Mix.lex_nil ?_)))
                go_roundw
                case rel =>
                  refine ⟨k + 1, by omega, by go_num, y2, nb2, nA, A2, nc, c2, nd, od ++ [(nm, tx)], P9.out, ?_, fun h => absurd h (by omega), fun _ => HKb.out (by omega), by omega, fun x hx => ?_, ?_⟩
                  · simp only [List.length_append, List.length_cons, List.length_nil] at hkl ⊢; omega
                  · rw [← List.append_assoc] at hx
                    rcases List.mem_append.1 hx with hx | hx
                    · exact HFl.out x hx
                    · simp at hx; rw [hx]; exact ⟨by show nm.length ≤ 5001; omega, by show tx.length ≤ 20; omega⟩
                  · rw [hm2, HF3.out]; simp
                case measure => simp [intOf]; omega
        · obtain rfl : k = b + c := by omega
          have HK : Hid (filsF (b + c) t bd = (y, yb, nd ++ od)) := by
            rw [Hid, HFi.out, Nat.sub_self]
            simp [filsF]
          have hnb := HKb.out (by omega)
          have HPx2 : Hid (prsX s = (⟨cs, nd, od⟩, y, yb)) := by
            rw [Hid, HPx.out, HK.out]
            dsimp only
            rw [← hnb, List.take_left, List.drop_left]
          rw [HPx2.out] at HOk HP
          dsimp only at HOk HP
          have hndl : nd.length ≤ 5 := by omega
          have hodl : od.length ≤ 5 := by omega
          have hlim : (⟨cs, nd, od⟩ : Rcd).Lim := ⟨hcsl, by show nd.length ≤ 100; omega, by show od.length ≤ 100; omega, fun x hx => by have := HCx.out x hx; omega, fun x hx => by have := HFl.out x (List.mem_append_left _ hx); omega, fun x hx => by have := HFl.out x (List.mem_append_right _ hx); omega⟩
          have HL := Lib.hid hlim
          have HTc : Hid (∀ v, Ext wr v → Calls Tryd.prog 13 #[.agg #[.slice cA cs.length cc, .slice nA nd.length nc, .slice oA od.length oc]] v fun e w' => e = .returned (S (recT ⟨cs, nd, od⟩)) ∧ Ext v w') := fun v hv => RText_c (v := ⟨cA, cc, nA, nc, oA, oc⟩) (r := ⟨cs, nd, od⟩) (HE.out.ext (P0.out.x.then_ext hv)) ⟨((P0.out.fc.on hv).row (by decide)), ((P0.out.fn.on hv).row (by decide)), ((P0.out.fo.on hv).row (by decide))⟩ HL.out
          clear HKo HKb HK HFi HPx HPx2 hlim hkl hnb
          cases yb with
          | true =>
            have HOk2 : Hid (prsOk s = false) := by rw [Hid, HOk.out]; rfl
            have PF := P0
            have r0 : wr.cell? ⟨g4, 0, none⟩ = some (S y) := Cs.cell PF.out.rd 0
            have r1 : wr.cell? ⟨g4, 1, none⟩ = some (.bool true) := Cs.cell PF.out.rd 1
            have c0 : wr.cell? ⟨g8, 0, none⟩ = some (.slice cA cs.length cc) := PF.out.rc.cell 0
            have c1 : wr.cell? ⟨g8, 1, none⟩ = some (.slice nA nd.length nc) := PF.out.rc.cell 1
            have c2 : wr.cell? ⟨g8, 2, none⟩ = some (.slice oA od.length oc) := PF.out.rc.cell 2
            have e0 : wr.cell? ⟨g2, 0, none⟩ = some (.slice none 0 0) := PF.out.rs.cell 0
            have e1 : wr.cell? ⟨g2, 1, none⟩ = some (.slice none 0 0) := PF.out.rs.cell 1
            have e2 : wr.cell? ⟨g2, 2, none⟩ = some (.slice none 0 0) := PF.out.rs.cell 2
            have z0 := PF.out.rs.frozen 0
            have z1 := PF.out.rs.frozen 1
            have z2 := PF.out.rs.frozen 2
            have HO : Hid (∀ a b c, Only (fun b => b = g2) wr (((wr.setCell ⟨g2, 0, none⟩ a).setCell ⟨g2, 1, none⟩ b).setCell ⟨g2, 2, none⟩ c)) := fun a b c => (((Only.refl _ _).at_ 0 a).at_ 1 b).at_ 2 c
            have HS : Hid (∀ a b c, Cs (((wr.setCell ⟨g2, 0, none⟩ a).setCell ⟨g2, 1, none⟩ b).setCell ⟨g2, 2, none⟩ c) g2 rcT #[a, b, c]) := fun a b c => ((PF.out.rs.set_ 0 a).set_ 1 b).set_ 2 c
            have HX : Hid (∀ u, Only (fun b => b = g2) wr u → Ext w u) := fun u hx => PF.out.x.trans hx fun b hb e => by have e : b = g2 := e; omega
            have HR : Hid (prsF s = (rcd0, 4)) := by rw [Hid, HP.out, HOk2.out]; rfl
            go_wp2_with (first | (refine Mix.wpList_guarded rfl ?_; (repeat' (first | (refine Mix.lex_quiet0 rfl rfl rfl ?_; intro K hK; go_big_quiet_op; go_big_quiet_on) | (refine Mix.lex_quietG rfl rfl rfl (by with_reducible rfl) rfl rfl ?_; intro K hK; go_big_quiet_op; go_big_quiet_on) | ((first | refine Mix.lex_skipT rfl rfl rfl (by with_reducible rfl) ?_ | refine Mix.lex_skipF rfl rfl rfl (by with_reducible rfl) ?_ | refine Mix.lex_skipU rfl rfl rfl (by with_reducible rfl) ?_); simp only [Act.put, List.setIfInBounds_toArray, List.set_cons_succ, List.set_cons_zero]) | (refine Mix.lex_part rfl rfl rfl rfl (fun hq => ?_) (fun hq => ?_) <;> (fail_if_success (guard_hyp hq :ₛ true = true)) <;> (fail_if_success (guard_hyp hq :ₛ false = false)) <;> first | (exfalso; cases hq; done) | (exfalso; simp only [decide_eq_true_eq, decide_eq_false_iff_not, beq_iff_eq, beq_eq_false_iff_ne, ne_eq, Int.not_lt, Int.not_le] at hq; omega) | simp only [Act.put, List.setIfInBounds_toArray, List.set_cons_succ, List.set_cons_zero]))); all_goals (refine Mix.lex_nil ?_)) | (refine Mix.wp_still (by kernel_rfl) (by kernel_rfl) ?_; (repeat' (first | (refine Mix.lex_quiet0 rfl rfl rfl ?_; intro K hK; go_big_quiet_op; go_big_quiet_on) | (refine Mix.lex_quietG rfl rfl rfl (by with_reducible rfl) rfl rfl ?_; intro K hK; go_big_quiet_op; go_big_quiet_on) | ((first | refine Mix.lex_skipT rfl rfl rfl (by with_reducible rfl) ?_ | refine Mix.lex_skipF rfl rfl rfl (by with_reducible rfl) ?_ | refine Mix.lex_skipU rfl rfl rfl (by with_reducible rfl) ?_); simp only [Act.put, List.setIfInBounds_toArray, List.set_cons_succ, List.set_cons_zero]) | (refine Mix.lex_part rfl rfl rfl rfl (fun hq => ?_) (fun hq => ?_) <;> (fail_if_success (guard_hyp hq :ₛ true = true)) <;> (fail_if_success (guard_hyp hq :ₛ false = false)) <;> first | (exfalso; cases hq; done) | (exfalso; simp only [decide_eq_true_eq, decide_eq_false_iff_not, beq_iff_eq, beq_eq_false_iff_ne, ne_eq, Int.not_lt, Int.not_le] at hq; omega) | simp only [Act.put, List.setIfInBounds_toArray, List.set_cons_succ, List.set_cons_zero]))); all_goals (refine Mix.lex_nil ?_)))
            refine bodyPost_cell rfl rfl rfl (load_rc (HS.out _ _ _)) ?_
            rw [HR.out]
            exact ⟨⟨none, 0, none, 0, none, 0⟩, rfl, ⟨SlR.none_, SlR.none_, SlR.none_⟩, HX.out _ (HO.out _ _ _)⟩
          | false =>
            obtain ⟨p, hp⟩ : ∃ p, (y == ([] : Str)) = p := ⟨_, rfl⟩
            rw [hp] at HOk
            cases p with
            | false =>
              have HOk2 : Hid (prsOk s = false) := by rw [Hid, HOk.out]; rfl
              have PF := P0
              have r0 : wr.cell? ⟨g4, 0, none⟩ = some (S y) := Cs.cell PF.out.rd 0
              have r1 : wr.cell? ⟨g4, 1, none⟩ = some (.bool false) := Cs.cell PF.out.rd 1
              have c0 : wr.cell? ⟨g8, 0, none⟩ = some (.slice cA cs.length cc) := PF.out.rc.cell 0
              have c1 : wr.cell? ⟨g8, 1, none⟩ = some (.slice nA nd.length nc) := PF.out.rc.cell 1
              have c2 : wr.cell? ⟨g8, 2, none⟩ = some (.slice oA od.length oc) := PF.out.rc.cell 2
              have e0 : wr.cell? ⟨g2, 0, none⟩ = some (.slice none 0 0) := PF.out.rs.cell 0
              have e1 : wr.cell? ⟨g2, 1, none⟩ = some (.slice none 0 0) := PF.out.rs.cell 1
              have e2 : wr.cell? ⟨g2, 2, none⟩ = some (.slice none 0 0) := PF.out.rs.cell 2
              have z0 := PF.out.rs.frozen 0
              have z1 := PF.out.rs.frozen 1
              have z2 := PF.out.rs.frozen 2
              have HO : Hid (∀ a b c, Only (fun b => b = g2) wr (((wr.setCell ⟨g2, 0, none⟩ a).setCell ⟨g2, 1, none⟩ b).setCell ⟨g2, 2, none⟩ c)) := fun a b c => (((Only.refl _ _).at_ 0 a).at_ 1 b).at_ 2 c
              have HS : Hid (∀ a b c, Cs (((wr.setCell ⟨g2, 0, none⟩ a).setCell ⟨g2, 1, none⟩ b).setCell ⟨g2, 2, none⟩ c) g2 rcT #[a, b, c]) := fun a b c => ((PF.out.rs.set_ 0 a).set_ 1 b).set_ 2 c
              have HX : Hid (∀ u, Only (fun b => b = g2) wr u → Ext w u) := fun u hx => PF.out.x.trans hx fun b hb e => by have e : b = g2 := e; omega
              have HR : Hid (prsF s = (rcd0, 4)) := by rw [Hid, HP.out, HOk2.out]; rfl
              go_wp2_with (first | (refine Mix.wpList_guarded rfl ?_; (repeat' (first | (refine Mix.lex_quiet0 rfl rfl rfl ?_; intro K hK; go_big_quiet_op; go_big_quiet_on) | (refine Mix.lex_quietG rfl rfl rfl (by with_reducible rfl) rfl rfl ?_; intro K hK; go_big_quiet_op; go_big_quiet_on) | ((first | refine Mix.lex_skipT rfl rfl rfl (by with_reducible rfl) ?_ | refine Mix.lex_skipF rfl rfl rfl (by with_reducible rfl) ?_ | refine Mix.lex_skipU rfl rfl rfl (by with_reducible rfl) ?_); simp only [Act.put, List.setIfInBounds_toArray, List.set_cons_succ, List.set_cons_zero]) | (refine Mix.lex_part rfl rfl rfl rfl (fun hq => ?_) (fun hq => ?_) <;> (fail_if_success (guard_hyp hq :ₛ true = true)) <;> (fail_if_success (guard_hyp hq :ₛ false = false)) <;> first | (exfalso; cases hq; done) | (exfalso; simp only [decide_eq_true_eq, decide_eq_false_iff_not, beq_iff_eq, beq_eq_false_iff_ne, ne_eq, Int.not_lt, Int.not_le] at hq; omega) | simp only [Act.put, List.setIfInBounds_toArray, List.set_cons_succ, List.set_cons_zero]))); all_goals (refine Mix.lex_nil ?_)) | (refine Mix.wp_still (by kernel_rfl) (by kernel_rfl) ?_; (repeat' (first | (refine Mix.lex_quiet0 rfl rfl rfl ?_; intro K hK; go_big_quiet_op; go_big_quiet_on) | (refine Mix.lex_quietG rfl rfl rfl (by with_reducible rfl) rfl rfl ?_; intro K hK; go_big_quiet_op; go_big_quiet_on) | ((first | refine Mix.lex_skipT rfl rfl rfl (by with_reducible rfl) ?_ | refine Mix.lex_skipF rfl rfl rfl (by with_reducible rfl) ?_ | refine Mix.lex_skipU rfl rfl rfl (by with_reducible rfl) ?_); simp only [Act.put, List.setIfInBounds_toArray, List.set_cons_succ, List.set_cons_zero]) | (refine Mix.lex_part rfl rfl rfl rfl (fun hq => ?_) (fun hq => ?_) <;> (fail_if_success (guard_hyp hq :ₛ true = true)) <;> (fail_if_success (guard_hyp hq :ₛ false = false)) <;> first | (exfalso; cases hq; done) | (exfalso; simp only [decide_eq_true_eq, decide_eq_false_iff_not, beq_iff_eq, beq_eq_false_iff_ne, ne_eq, Int.not_lt, Int.not_le] at hq; omega) | simp only [Act.put, List.setIfInBounds_toArray, List.set_cons_succ, List.set_cons_zero]))); all_goals (refine Mix.lex_nil ?_)))
              refine bodyPost_cell rfl rfl rfl (load_rc (HS.out _ _ _)) ?_
              rw [HR.out]
              exact ⟨⟨none, 0, none, 0, none, 0⟩, rfl, ⟨SlR.none_, SlR.none_, SlR.none_⟩, HX.out _ (HO.out _ _ _)⟩
            | true =>
              obtain ⟨T, hT⟩ : ∃ T, T = recT ⟨cs, nd, od⟩ := ⟨_, rfl⟩
              rw [← hT] at HTc HOk
              clear hT
              obtain ⟨q, hq⟩ : ∃ q, (T == s) = q := ⟨_, rfl⟩
              rw [hq] at HOk
              have m0 : ∀ ξ : X wr No, ξ.v.cell? ⟨g4, 0, none⟩ = some (S y) := Cs.x P0.out.rd id 0
              have m1 : ∀ ξ : X wr No, ξ.v.cell? ⟨g4, 1, none⟩ = some (.bool false) := Cs.x P0.out.rd id 1
              have m2 : ∀ ξ : X wr No, ξ.v.cell? ⟨g8, 0, none⟩ = some (.slice cA cs.length cc) := P0.out.rc.x id 0
              have m3 : ∀ ξ : X wr No, ξ.v.cell? ⟨g8, 1, none⟩ = some (.slice nA nd.length nc) := P0.out.rc.x id 1
              have m4 : ∀ ξ : X wr No, ξ.v.cell? ⟨g8, 2, none⟩ = some (.slice oA od.length oc) := P0.out.rc.x id 2
              go_upto_region 18 with fail
              refine Mix.wp_plain [13] (Cl wr No) (Cl.of (Only.refl _ _)) ?_
              (repeat' (first | (refine Mix.lex_quiet0 rfl rfl rfl ?_; intro K hK; go_big_quiet_op; go_big_quiet_on) | (refine Mix.lex_quietG rfl rfl rfl (by with_reducible rfl) rfl rfl ?_; intro K hK; go_big_quiet_op; go_big_quiet_on) | ((first | refine Mix.lex_skipT rfl rfl rfl (by with_reducible rfl) ?_ | refine Mix.lex_skipF rfl rfl rfl (by with_reducible rfl) ?_ | refine Mix.lex_skipU rfl rfl rfl (by with_reducible rfl) ?_); simp only [Act.put, List.setIfInBounds_toArray, List.set_cons_succ, List.set_cons_zero]) | (refine Mix.lex_part rfl rfl rfl rfl (fun hq => ?_) (fun hq => ?_) <;> (fail_if_success (guard_hyp hq :ₛ true = true)) <;> (fail_if_success (guard_hyp hq :ₛ false = false)) <;> first | (exfalso; cases hq; done) | (exfalso; simp only [decide_eq_true_eq, decide_eq_false_iff_not, beq_iff_eq, beq_eq_false_iff_ne, ne_eq, Int.not_lt, Int.not_le] at hq; omega) | simp only [Act.put, List.setIfInBounds_toArray, List.set_cons_succ, List.set_cons_zero])))
              ((first | refine Mix.lex_goes0 rfl rfl ?_ | refine Mix.lex_goesG rfl rfl rfl (by with_reducible rfl) rfl ?_); intro K hK; go_simp); refine (HTc.out _ (Only.refl _ _)).mono ?_; rintro e uu ⟨rfl, hu⟩; obtain ⟨ξ1, hnew⟩ : ∃ ξ : X wr No, ξ.v = uu := ⟨⟨uu, (X.here wr No).h.then_ext hu⟩, rfl⟩; subst hnew; have Hξ1 := Lib.hid hu; refine ⟨_, rfl, hK _ _ (fun _ => ⟨ξ1, rfl⟩) ?_⟩; clear hK K hu; simp only [Act.put, List.setIfInBounds_toArray, List.set_cons_succ, List.set_cons_zero]; (repeat' (first | (refine Mix.lex_quiet0 rfl rfl rfl ?_; intro K hK; go_big_quiet_op; go_big_quiet_on) | (refine Mix.lex_quietG rfl rfl rfl (by with_reducible rfl) rfl rfl ?_; intro K hK; go_big_quiet_op; go_big_quiet_on) | ((first | refine Mix.lex_skipT rfl rfl rfl (by with_reducible rfl) ?_ | refine Mix.lex_skipF rfl rfl rfl (by with_reducible rfl) ?_ | refine Mix.lex_skipU rfl rfl rfl (by with_reducible rfl) ?_); simp only [Act.put, List.setIfInBounds_toArray, List.set_cons_succ, List.set_cons_zero]) | (refine Mix.lex_part rfl rfl rfl rfl (fun hq => ?_) (fun hq => ?_) <;> (fail_if_success (guard_hyp hq :ₛ true = true)) <;> (fail_if_success (guard_hyp hq :ₛ false = false)) <;> first | (exfalso; cases hq; done) | (exfalso; simp only [decide_eq_true_eq, decide_eq_false_iff_not, beq_iff_eq, beq_eq_false_iff_ne, ne_eq, Int.not_lt, Int.not_le] at hq; omega) | simp only [Act.put, List.setIfInBounds_toArray, List.set_cons_succ, List.set_cons_zero])))
              refine Mix.lex_nil ?_
              have PF := Lib.hid (P0.out.ext ξ1.h)
              clear m0 m1 m2 m3 m4 HTc P0
              have r0 : ξ1.v.cell? ⟨g4, 0, none⟩ = some (S y) := Cs.cell PF.out.rd 0
              have r1 : ξ1.v.cell? ⟨g4, 1, none⟩ = some (.bool false) := Cs.cell PF.out.rd 1
              have c0 : ξ1.v.cell? ⟨g8, 0, none⟩ = some (.slice cA cs.length cc) := PF.out.rc.cell 0
              have c1 : ξ1.v.cell? ⟨g8, 1, none⟩ = some (.slice nA nd.length nc) := PF.out.rc.cell 1
              have c2 : ξ1.v.cell? ⟨g8, 2, none⟩ = some (.slice oA od.length oc) := PF.out.rc.cell 2
              have e0 : ξ1.v.cell? ⟨g2, 0, none⟩ = some (.slice none 0 0) := PF.out.rs.cell 0
              have e1 : ξ1.v.cell? ⟨g2, 1, none⟩ = some (.slice none 0 0) := PF.out.rs.cell 1
              have e2 : ξ1.v.cell? ⟨g2, 2, none⟩ = some (.slice none 0 0) := PF.out.rs.cell 2
              have z0 := PF.out.rs.frozen 0
              have z1 := PF.out.rs.frozen 1
              have z2 := PF.out.rs.frozen 2
              have HO : Hid (∀ a b c, Only (fun b => b = g2) ξ1.v (((ξ1.v.setCell ⟨g2, 0, none⟩ a).setCell ⟨g2, 1, none⟩ b).setCell ⟨g2, 2, none⟩ c)) := fun a b c => (((Only.refl _ _).at_ 0 a).at_ 1 b).at_ 2 c
              have HS : Hid (∀ a b c, Cs (((ξ1.v.setCell ⟨g2, 0, none⟩ a).setCell ⟨g2, 1, none⟩ b).setCell ⟨g2, 2, none⟩ c) g2 rcT #[a, b, c]) := fun a b c => ((PF.out.rs.set_ 0 a).set_ 1 b).set_ 2 c
              have HX : Hid (∀ u, Only (fun b => b = g2) ξ1.v u → Ext w u) := fun u hx => PF.out.x.trans hx fun b hb e => by have e : b = g2 := e; omega
              cases q with
              | false =>
                have HOk2 : Hid (prsOk s = false) := by rw [Hid, HOk.out]; rfl
                have HR : Hid (prsF s = (rcd0, 4)) := by rw [Hid, HP.out, HOk2.out]; rfl
                go_wp2_with (first | (refine Mix.wpList_guarded rfl ?_; (repeat' (first | (refine Mix.lex_quiet0 rfl rfl rfl ?_; intro K hK; go_big_quiet_op; go_big_quiet_on) | (refine Mix.lex_quietG rfl rfl rfl (by with_reducible rfl) rfl rfl ?_; intro K hK; go_big_quiet_op; go_big_quiet_on) | ((first | refine Mix.lex_skipT rfl rfl rfl (by with_reducible rfl) ?_ | refine Mix.lex_skipF rfl rfl rfl (by with_reducible rfl) ?_ | refine Mix.lex_skipU rfl rfl rfl (by with_reducible rfl) ?_); simp only [Act.put, List.setIfInBounds_toArray, List.set_cons_succ, List.set_cons_zero]) | (refine Mix.lex_part rfl rfl rfl rfl (fun hq => ?_) (fun hq => ?_) <;> (fail_if_success (guard_hyp hq :ₛ true = true)) <;> (fail_if_success (guard_hyp hq :ₛ false = false)) <;> first | (exfalso; cases hq; done) | (exfalso; simp only [decide_eq_true_eq, decide_eq_false_iff_not, beq_iff_eq, beq_eq_false_iff_ne, ne_eq, Int.not_lt, Int.not_le] at hq; omega) | simp only [Act.put, List.setIfInBounds_toArray, List.set_cons_succ, List.set_cons_zero]))); all_goals (refine Mix.lex_nil ?_)) | (refine Mix.wp_still (by kernel_rfl) (by kernel_rfl) ?_; (repeat' (first | (refine Mix.lex_quiet0 rfl rfl rfl ?_; intro K hK; go_big_quiet_op; go_big_quiet_on) | (refine Mix.lex_quietG rfl rfl rfl (by with_reducible rfl) rfl rfl ?_; intro K hK; go_big_quiet_op; go_big_quiet_on) | ((first | refine Mix.lex_skipT rfl rfl rfl (by with_reducible rfl) ?_ | refine Mix.lex_skipF rfl rfl rfl (by with_reducible rfl) ?_ | refine Mix.lex_skipU rfl rfl rfl (by with_reducible rfl) ?_); simp only [Act.put, List.setIfInBounds_toArray, List.set_cons_succ, List.set_cons_zero]) | (refine Mix.lex_part rfl rfl rfl rfl (fun hq => ?_) (fun hq => ?_) <;> (fail_if_success (guard_hyp hq :ₛ true = true)) <;> (fail_if_success (guard_hyp hq :ₛ false = false)) <;> first | (exfalso; cases hq; done) | (exfalso; simp only [decide_eq_true_eq, decide_eq_false_iff_not, beq_iff_eq, beq_eq_false_iff_ne, ne_eq, Int.not_lt, Int.not_le] at hq; omega) | simp only [Act.put, List.setIfInBounds_toArray, List.set_cons_succ, List.set_cons_zero]))); all_goals (refine Mix.lex_nil ?_)))
                refine bodyPost_cell rfl rfl rfl (load_rc (HS.out _ _ _)) ?_
                rw [HR.out]
                exact ⟨⟨none, 0, none, 0, none, 0⟩, rfl, ⟨SlR.none_, SlR.none_, SlR.none_⟩, HX.out _ (HO.out _ _ _)⟩
              | true =>
                have HR : Hid (prsF s = (⟨cs, nd, od⟩, 0)) := by rw [Hid, HP.out, HOk.out]; rfl
                go_wp2_with (first | (refine Mix.wpList_guarded rfl ?_; (repeat' (first | (refine Mix.lex_quiet0 rfl rfl rfl ?_; intro K hK; go_big_quiet_op; go_big_quiet_on) | (refine Mix.lex_quietG rfl rfl rfl (by with_reducible rfl) rfl rfl ?_; intro K hK; go_big_quiet_op; go_big_quiet_on) | ((first | refine Mix.lex_skipT rfl rfl rfl (by with_reducible rfl) ?_ | refine Mix.lex_skipF rfl rfl rfl (by with_reducible rfl) ?_ | refine Mix.lex_skipU rfl rfl rfl (by with_reducible rfl) ?_); simp only [Act.put, List.setIfInBounds_toArray, List.set_cons_succ, List.set_cons_zero]) | (refine Mix.lex_part rfl rfl rfl rfl (fun hq => ?_) (fun hq => ?_) <;> (fail_if_success (guard_hyp hq :ₛ true = true)) <;> (fail_if_success (guard_hyp hq :ₛ false = false)) <;> first | (exfalso; cases hq; done) | (exfalso; simp only [decide_eq_true_eq, decide_eq_false_iff_not, beq_iff_eq, beq_eq_false_iff_ne, ne_eq, Int.not_lt, Int.not_le] at hq; omega) | simp only [Act.put, List.setIfInBounds_toArray, List.set_cons_succ, List.set_cons_zero]))); all_goals (refine Mix.lex_nil ?_)) | (refine Mix.wp_still (by kernel_rfl) (by kernel_rfl) ?_; (repeat' (first | (refine Mix.lex_quiet0 rfl rfl rfl ?_; intro K hK; go_big_quiet_op; go_big_quiet_on) | (refine Mix.lex_quietG rfl rfl rfl (by with_reducible rfl) rfl rfl ?_; intro K hK; go_big_quiet_op; go_big_quiet_on) | ((first | refine Mix.lex_skipT rfl rfl rfl (by with_reducible rfl) ?_ | refine Mix.lex_skipF rfl rfl rfl (by with_reducible rfl) ?_ | refine Mix.lex_skipU rfl rfl rfl (by with_reducible rfl) ?_); simp only [Act.put, List.setIfInBounds_toArray, List.set_cons_succ, List.set_cons_zero]) | (refine Mix.lex_part rfl rfl rfl rfl (fun hq => ?_) (fun hq => ?_) <;> (fail_if_success (guard_hyp hq :ₛ true = true)) <;> (fail_if_success (guard_hyp hq :ₛ false = false)) <;> first | (exfalso; cases hq; done) | (exfalso; simp only [decide_eq_true_eq, decide_eq_false_iff_not, beq_iff_eq, beq_eq_false_iff_ne, ne_eq, Int.not_lt, Int.not_le] at hq; omega) | simp only [Act.put, List.setIfInBounds_toArray, List.set_cons_succ, List.set_cons_zero]))); all_goals (refine Mix.lex_nil ?_)))
                refine bodyPost_cell rfl rfl rfl (load_rc (HS.out _ _ _)) ?_
                rw [HR.out]
                have hx := HO.out (.slice cA cs.length cc) (.slice nA nd.length nc) (.slice oA od.length oc)
                have hE := HX.out _ hx
                exact ⟨⟨cA, cc, nA, nc, oA, oc⟩, rfl, ⟨(PF.out.fc.keep hx hE (own_ne_cs PF.out.fc.own PF.out.rs (by decide))).row (by decide), (PF.out.fn.keep hx hE (own_ne_cs PF.out.fn.own PF.out.rs (by decide))).row (by decide), (PF.out.fo.keep hx hE (own_ne_cs PF.out.fo.own PF.out.rs (by decide))).row (by decide)⟩, hE⟩
end Go.Proofs.YtfbpiafhgkhoiaaDoor
