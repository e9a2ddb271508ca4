import Derived.Test.YtdiablabpaankaaRef4
namespace Go.Proofs.Ytdiablabpaankaa
open Go Go.RowKit
theorem RNew_bad (i : Int) (hi : i < 1 ∨ 120 < i) (w : World) :
    Calls Try.prog 8 #[.int .i64 i] w fun e w' => e = .returned (.tuple #[.pointer none, .int .i64 1]) ∧ Ext w w' := by
  go_enter Try.func8, Try.ntmps8
  go_wp2_with (first | (refine Mix.wpList_guarded rfl ?_; (repeat' (first | (refine Mix.lex_quiet0 rfl rfl rfl ?_; intro K hK; go_big_quiet_op; go_big_quiet_on) | (refine Mix.lex_quietG rfl rfl rfl (by with_reducible rfl) rfl rfl ?_; intro K hK; go_big_quiet_op; go_big_quiet_on) | ((first | refine Mix.lex_skipT rfl rfl rfl (by with_reducible rfl) ?_ | refine Mix.lex_skipF rfl rfl rfl (by with_reducible rfl) ?_ | refine Mix.lex_skipU rfl rfl rfl (by with_reducible rfl) ?_); simp only [Act.put, List.setIfInBounds_toArray, List.set_cons_succ, List.set_cons_zero]) | (refine Mix.lex_part rfl rfl rfl rfl (fun hq => ?_) (fun hq => ?_) <;> (fail_if_success (guard_hyp hq :ₛ true = true)) <;> (fail_if_success (guard_hyp hq :ₛ false = false)) <;> first | (exfalso; cases hq; done) | (exfalso; simp only [decide_eq_true_eq, decide_eq_false_iff_not, beq_iff_eq, beq_eq_false_iff_ne, ne_eq, Int.not_lt, Int.not_le] at hq; omega) | simp only [Act.put, List.setIfInBounds_toArray, List.set_cons_succ, List.set_cons_zero]))); all_goals (refine Mix.lex_nil ?_)) | (refine Mix.wp_still (by kernel_rfl) (by kernel_rfl) ?_; (repeat' (first | (refine Mix.lex_quiet0 rfl rfl rfl ?_; intro K hK; go_big_quiet_op; go_big_quiet_on) | (refine Mix.lex_quietG rfl rfl rfl (by with_reducible rfl) rfl rfl ?_; intro K hK; go_big_quiet_op; go_big_quiet_on) | ((first | refine Mix.lex_skipT rfl rfl rfl (by with_reducible rfl) ?_ | refine Mix.lex_skipF rfl rfl rfl (by with_reducible rfl) ?_ | refine Mix.lex_skipU rfl rfl rfl (by with_reducible rfl) ?_); simp only [Act.put, List.setIfInBounds_toArray, List.set_cons_succ, List.set_cons_zero]) | (refine Mix.lex_part rfl rfl rfl rfl (fun hq => ?_) (fun hq => ?_) <;> (fail_if_success (guard_hyp hq :ₛ true = true)) <;> (fail_if_success (guard_hyp hq :ₛ false = false)) <;> first | (exfalso; cases hq; done) | (exfalso; simp only [decide_eq_true_eq, decide_eq_false_iff_not, beq_iff_eq, beq_eq_false_iff_ne, ne_eq, Int.not_lt, Int.not_le] at hq; omega) | simp only [Act.put, List.setIfInBounds_toArray, List.set_cons_succ, List.set_cons_zero]))); all_goals (refine Mix.lex_nil ?_)))
  all_goals first
    | (go_ret2; exact ⟨rfl, Only.refl _ _⟩)
    | (exfalso; simp only [decide_eq_true_eq, decide_eq_false_iff_not, beq_iff_eq, beq_eq_false_iff_ne, ne_eq, Int.not_lt, Int.not_le, Bool.not_eq_true, Bool.not_eq_false, Bool.or_eq_true, Bool.or_eq_false_iff, Bool.and_eq_true, Bool.and_eq_false_iff, Bool.not_eq_eq_eq_not, Bool.not_true, Bool.not_false] at *; omega)
@[go_sem] theorem rdisk_build (w : World) : (Instr.build 50 #[(3, .int .i64 (-1))]).run Try.prog w =
    .ok (.agg #[.slice none 0 0, .slice none 0 0, .slice none 0 0, .int .i64 (-1), .bool false]) w := run_build w 50 _ _ (by kernel_rfl)
/-- The lists as they grow. -/
structure Grows (w wr : World) (g k : Nat) (A1 A2 : Option Addr) (c1 c2 : Nat) : Prop where
  cs : Cs wr g 50 #[.slice A1 k c1, .slice A2 k c2, .slice none 0 0, .int .i64 (-1), .bool false]
  n1 : wr.ownsRow 0 9 1 (.slice A1 k c1) k ((List.replicate k (zeros 340)).map S)
  n2 : wr.ownsRow 0 9 1 (.slice A2 k c2) k ((List.replicate k (zeros 340)).map S)
  ne : ∀ b, (Value.slice A1 k c1).ownBlock = some b → (Value.slice A2 k c2).ownBlock ≠ some b
  f1 : ∀ b, (Value.slice A1 k c1).ownBlock = some b → w.heap.size ≤ b
  f2 : ∀ b, (Value.slice A2 k c2).ownBlock = some b → w.heap.size ≤ b
  ext : Ext w wr
theorem rep_succ (k : Nat) (s : Str) : (List.replicate k s).map S ++ [S s] = (List.replicate (k + 1) s).map S := by
  rw [List.replicate_succ', List.map_append]; rfl
theorem lt_own {w : World} {B : Nat} {e : TypeId} {size n : Nat} {v : Value} {xs : List Value} (h : w.ownsRow B e size v n xs) {b : Nat} (hb : v.ownBlock = some b) : b < w.heap.size := (h.lt b hb).2
set_option maxHeartbeats 2000000 in
theorem RNew_ok (n : Nat) (h1 : 1 ≤ n) (h2 : n ≤ 120) (w : World) :
    Calls Try.prog 8 #[.int .i64 n] w fun e w' => ∃ r, e = .returned (.tuple #[pt r.g, .int .i64 0]) ∧ RefAt w' r (Dk.fresh n) ∧ Ext w w' ∧ ∀ b, r.fp b → w.heap.size ≤ b := by
  go_enter Try.func8, Try.ntmps8
  go_upto_region 3 with (first | (refine Mix.wpList_guarded rfl ?_; (repeat' (first | (refine Mix.lex_quiet0 rfl rfl rfl ?_; intro K hK; go_big_quiet_op; go_big_quiet_on) | (refine Mix.lex_quietG rfl rfl rfl (by with_reducible rfl) rfl rfl ?_; intro K hK; go_big_quiet_op; go_big_quiet_on) | ((first | refine Mix.lex_skipT rfl rfl rfl (by with_reducible rfl) ?_ | refine Mix.lex_skipF rfl rfl rfl (by with_reducible rfl) ?_ | refine Mix.lex_skipU rfl rfl rfl (by with_reducible rfl) ?_); simp only [Act.put, List.setIfInBounds_toArray, List.set_cons_succ, List.set_cons_zero]) | (refine Mix.lex_part rfl rfl rfl rfl (fun hq => ?_) (fun hq => ?_) <;> (fail_if_success (guard_hyp hq :ₛ true = true)) <;> (fail_if_success (guard_hyp hq :ₛ false = false)) <;> first | (exfalso; cases hq; done) | (exfalso; simp only [decide_eq_true_eq, decide_eq_false_iff_not, beq_iff_eq, beq_eq_false_iff_ne, ne_eq, Int.not_lt, Int.not_le] at hq; omega) | simp only [Act.put, List.setIfInBounds_toArray, List.set_cons_succ, List.set_cons_zero]))); all_goals (refine Mix.lex_nil ?_)))
  all_goals try (exfalso; simp only [decide_eq_true_eq, decide_eq_false_iff_not, beq_iff_eq, beq_eq_false_iff_ne, ne_eq, Int.not_lt, Int.not_le, Bool.not_eq_true, Bool.not_eq_false, Bool.or_eq_true, Bool.or_eq_false_iff, Bool.and_eq_true, Bool.and_eq_false_iff, Bool.not_eq_eq_eq_not, Bool.not_true, Bool.not_false] at *; omega)
  go_wp2
  have G0 : Hid (Grows w (w.alloc (.cells #[.slice none 0 0, .slice none 0 0, .slice none 0 0, .int .i64 (-1), .bool false] 50)) w.heap.size 0 none none 0 0) :=
    ⟨Cs.new _ _ _, World.ownsRow_nil _ _ _ _, World.ownsRow_nil _ _ _ _, fun b h => by simp [Value.ownBlock] at h, fun b h => by simp [Value.ownBlock] at h, fun b h => by simp [Value.ownBlock] at h, (Only.refl _ _).alloc _⟩
  go_loopw [5] (fun i wr => ∃ k : Nat, k ≤ n ∧ i = .int .i64 k ∧ ∃ A1 A2 c1 c2, Grows w wr w.heap.size k A1 A2 c1 c2) (fun i _ => n - (intOf i).toNat)
  case atStart => exact ⟨0, Nat.zero_le _, rfl, _, _, _, _, G0.out⟩
  case round =>
    obtain ⟨k, hk, rfl, A1, A2, c1, c2, hG⟩ := hrel
    have HG := Lib.hid hG
    clear hG G0
    by_cases hlt : k < n
    · have N1 := Lib.hid HG.out.n1
      have N2 := Lib.hid HG.out.n2
      have C0 := Lib.hid HG.out.cs
      have q1 := (C0.out.x (F := fun b => (Value.slice A1 k c1).ownBlock = some b) (fun h => own_ne N1.out C0.out (by decide) h) 0)
      simp only [List.getElem?_toArray, List.getElem?_cons_succ, List.getElem?_cons_zero] at q1
      go_upto_region 7 with fail
      refine Mix.wp_draw [5, 6, 7, 10] 10 (Cl wr (fun b => (Value.slice A1 k c1).ownBlock = some b)) (by kernel_rfl) (by kernel_rfl) (Cl.of (Only.refl _ _).drew) ?_
      (repeat' (first | (refine Mix.lex_quiet0 rfl rfl rfl ?_; intro K hK; go_big_quiet_op; go_big_quiet_on) | (refine Mix.lex_quietG rfl rfl rfl (by with_reducible rfl) rfl rfl ?_; intro K hK; go_big_quiet_op; go_big_quiet_on) | ((first | refine Mix.lex_skipT rfl rfl rfl (by with_reducible rfl) ?_ | refine Mix.lex_skipF rfl rfl rfl (by with_reducible rfl) ?_ | refine Mix.lex_skipU rfl rfl rfl (by with_reducible rfl) ?_); simp only [Act.put, List.setIfInBounds_toArray, List.set_cons_succ, List.set_cons_zero]) | (refine Mix.lex_part rfl rfl rfl rfl (fun hq => ?_) (fun hq => ?_) <;> (fail_if_success (guard_hyp hq :ₛ true = true)) <;> (fail_if_success (guard_hyp hq :ₛ false = false)) <;> first | (exfalso; cases hq; done) | (exfalso; simp only [decide_eq_true_eq, decide_eq_false_iff_not, beq_iff_eq, beq_eq_false_iff_ne, ne_eq, Int.not_lt, Int.not_le] at hq; omega) | simp only [Act.put, List.setIfInBounds_toArray, List.set_cons_succ, List.set_cons_zero])))
      ((first | refine Mix.lex_goes0 rfl rfl ?_ | refine Mix.lex_goesG rfl rfl rfl (by with_reducible rfl) rfl ?_); intro K hK; go_simp)
      refine (noughts_c 340 (by omega) _).mono ?_
      rintro e u1 ⟨rfl, hu1⟩
      have U1 : Hid (Ext wr u1) := (Only.refl No wr).drew.then_ext hu1
      refine ⟨_, rfl, hK _ _ (fun _ => Cl.of (Only.any U1.out)) ?_⟩
      clear hK K hu1
      simp only [Act.put, List.setIfInBounds_toArray, List.set_cons_succ, List.set_cons_zero]
      ((first | refine Mix.lex_goes0 rfl rfl ?_ | refine Mix.lex_goesG rfl rfl rfl (by with_reducible rfl) rfl ?_); intro K hK; go_simp)
      refine hK _ _ (fun _ => Cl.of (Only.any (U1.out.alloc _))) ?_
      clear hK K
      simp only [Act.put, List.setIfInBounds_toArray, List.set_cons_succ, List.set_cons_zero]
      have O2 := Lib.hid (U1.out.alloc (.cells #[S (zeros 340)] 9))
      have N2' := Lib.hid (own_keep N1.out O2.out fun _ _ h => h)
      refine Mix.lex_goes0 rfl rfl ?_
      intro K hK
      refine goes_append (v := .slice A1 k c1) string_ty rfl rfl rfl N2'.out (rd_one u1 _ [S (zeros 340)]) (by simp [Value.oneCell']) (by omega) ?_
      intro A' c' w5 hown hg hb
      have O3 : Hid (Only (fun b => (Value.slice A1 k c1).ownBlock = some b) wr w5) := (Only.any O2.out).grown hg fun g hg => .inr hg
      refine hK _ _ (fun _ => Cl.of O3.out) ?_
      clear hK K
      simp only [Act.put, List.setIfInBounds_toArray, List.set_cons_succ, List.set_cons_zero]
      have C' := Lib.hid (C0.out.keep O3.out (fun h => own_ne N1.out C0.out (by decide) h))
      have g0 := C'.out.cell 0
      simp only [List.getElem?_toArray, List.getElem?_cons_succ, List.getElem?_cons_zero] at g0
      have z0 := C'.out.frozen 0
      have hfr : Hid (∀ b, (Value.slice A' (k + 1 : Nat) c').ownBlock = some b → (Value.slice A1 k c1).ownBlock = some b ∨ wr.heap.size ≤ b) := fun b h => by
        rcases hb with h' | h'
        · exact .inl (by rw [← h']; exact h)
        · right
          have := U1.out.size
          rw [h] at h'
          simp at h'
          omega
      have N' := Lib.hid hown
      clear hown hg hb q1
      (repeat' (first | (refine Mix.lex_quiet0 rfl rfl rfl ?_; intro K hK; go_big_quiet_op; go_big_quiet_on) | (refine Mix.lex_quietG rfl rfl rfl (by with_reducible rfl) rfl rfl ?_; intro K hK; go_big_quiet_op; go_big_quiet_on) | ((first | refine Mix.lex_skipT rfl rfl rfl (by with_reducible rfl) ?_ | refine Mix.lex_skipF rfl rfl rfl (by with_reducible rfl) ?_ | refine Mix.lex_skipU rfl rfl rfl (by with_reducible rfl) ?_); simp only [Act.put, List.setIfInBounds_toArray, List.set_cons_succ, List.set_cons_zero]) | (refine Mix.lex_part rfl rfl rfl rfl (fun hq => ?_) (fun hq => ?_) <;> (fail_if_success (guard_hyp hq :ₛ true = true)) <;> (fail_if_success (guard_hyp hq :ₛ false = false)) <;> first | (exfalso; cases hq; done) | (exfalso; simp only [decide_eq_true_eq, decide_eq_false_iff_not, beq_iff_eq, beq_eq_false_iff_ne, ne_eq, Int.not_lt, Int.not_le] at hq; omega) | simp only [Act.put, List.setIfInBounds_toArray, List.set_cons_succ, List.set_cons_zero])))
      ((first | refine Mix.lex_goes0 rfl rfl ?_ | refine Mix.lex_goesG rfl rfl rfl (by with_reducible rfl) rfl ?_); intro K hK; go_simp)
      refine hK _ _ (fun hne => absurd rfl hne) ?_
      clear hK K g0 z0
      simp only [Act.put, List.setIfInBounds_toArray, List.set_cons_succ, List.set_cons_zero]
      refine Mix.lex_nil ?_
      obtain ⟨w6, hw6⟩ : ∃ w6, w6 = w5.setCell ⟨w.heap.size, 0, none⟩ (.slice A' (k + 1 : Nat) c') := ⟨_, rfl⟩
      have C1 : Hid (Cs w6 w.heap.size 50 #[.slice A' (k + 1 : Nat) c', .slice A2 k c2, .slice none 0 0, .int .i64 (-1), .bool false]) := by
        have := C'.out.set_ 0 (.slice A' (k + 1 : Nat) c')
        simp only [List.setIfInBounds_toArray, List.set_cons_succ, List.set_cons_zero] at this
        rw [hw6]; exact this
      have O4 : Hid (Only (fun b => b = w.heap.size) w5 w6) := by rw [hw6]; exact (Only.refl _ _).at_ 0 _
      rw [← hw6]
      clear hw6
      have hgN : Hid (∀ b, (Value.slice A' (k + 1 : Nat) c').ownBlock = some b → ¬ b = w.heap.size) := fun b h e => own_ne N'.out C'.out (by decide) (by rw [h, e])
      have N1b : Hid (w6.ownsRow 0 9 1 (.slice A' (k + 1 : Nat) c') (k + 1) ((List.replicate (k + 1) (zeros 340)).map S)) := by
        rw [← rep_succ]; exact own_keep N'.out O4.out hgN.out
      have hg2 : Hid (∀ b, (Value.slice A2 k c2).ownBlock = some b → ¬ b = w.heap.size) := fun b h e => own_ne N2.out C0.out (by decide) (by rw [h, e])
      have N2b : Hid (w6.ownsRow 0 9 1 (.slice A2 k c2) k ((List.replicate k (zeros 340)).map S)) :=
        own_keep (own_keep N2.out O3.out fun b h h' => HG.out.ne _ h' h) O4.out hg2.out
      have q2 := (C1.out.x (F := fun b => (Value.slice A2 k c2).ownBlock = some b) (fun h => own_ne N2b.out C1.out (by decide) h) 1)
      simp only [List.getElem?_toArray, List.getElem?_cons_succ, List.getElem?_cons_zero] at q2
      go_upto_region 8 with fail
      refine Mix.wp_draw [5, 6, 7, 10] 10 (Cl w6 (fun b => (Value.slice A2 k c2).ownBlock = some b)) (by kernel_rfl) (by kernel_rfl) (Cl.of (Only.refl _ _).drew) ?_
      (repeat' (first | (refine Mix.lex_quiet0 rfl rfl rfl ?_; intro K hK; go_big_quiet_op; go_big_quiet_on) | (refine Mix.lex_quietG rfl rfl rfl (by with_reducible rfl) rfl rfl ?_; intro K hK; go_big_quiet_op; go_big_quiet_on) | ((first | refine Mix.lex_skipT rfl rfl rfl (by with_reducible rfl) ?_ | refine Mix.lex_skipF rfl rfl rfl (by with_reducible rfl) ?_ | refine Mix.lex_skipU rfl rfl rfl (by with_reducible rfl) ?_); simp only [Act.put, List.setIfInBounds_toArray, List.set_cons_succ, List.set_cons_zero]) | (refine Mix.lex_part rfl rfl rfl rfl (fun hq => ?_) (fun hq => ?_) <;> (fail_if_success (guard_hyp hq :ₛ true = true)) <;> (fail_if_success (guard_hyp hq :ₛ false = false)) <;> first | (exfalso; cases hq; done) | (exfalso; simp only [decide_eq_true_eq, decide_eq_false_iff_not, beq_iff_eq, beq_eq_false_iff_ne, ne_eq, Int.not_lt, Int.not_le] at hq; omega) | simp only [Act.put, List.setIfInBounds_toArray, List.set_cons_succ, List.set_cons_zero])))
      ((first | refine Mix.lex_goes0 rfl rfl ?_ | refine Mix.lex_goesG rfl rfl rfl (by with_reducible rfl) rfl ?_); intro K hK; go_simp)
      refine (noughts_c 340 (by omega) _).mono ?_
      rintro e v1 ⟨rfl, hv1⟩
      have V1 : Hid (Ext w6 v1) := (Only.refl No w6).drew.then_ext hv1
      refine ⟨_, rfl, hK _ _ (fun _ => Cl.of (Only.any V1.out)) ?_⟩
      clear hK K hv1
      simp only [Act.put, List.setIfInBounds_toArray, List.set_cons_succ, List.set_cons_zero]
      ((first | refine Mix.lex_goes0 rfl rfl ?_ | refine Mix.lex_goesG rfl rfl rfl (by with_reducible rfl) rfl ?_); intro K hK; go_simp)
      refine hK _ _ (fun _ => Cl.of (Only.any (V1.out.alloc _))) ?_
      clear hK K
      simp only [Act.put, List.setIfInBounds_toArray, List.set_cons_succ, List.set_cons_zero]
      have P2 := Lib.hid (V1.out.alloc (.cells #[S (zeros 340)] 9))
      have M2' := Lib.hid (own_keep N2b.out P2.out fun _ _ h => h)
      refine Mix.lex_goes0 rfl rfl ?_
      intro K hK
      refine goes_append (v := .slice A2 k c2) string_ty rfl rfl rfl M2'.out (rd_one v1 _ [S (zeros 340)]) (by simp [Value.oneCell']) (by omega) ?_
      intro B' d' w7 hown hg hb
      have P3 : Hid (Only (fun b => (Value.slice A2 k c2).ownBlock = some b) w6 w7) := (Only.any P2.out).grown hg fun g hg => .inr hg
      refine hK _ _ (fun _ => Cl.of P3.out) ?_
      clear hK K
      simp only [Act.put, List.setIfInBounds_toArray, List.set_cons_succ, List.set_cons_zero]
      have D' := Lib.hid (C1.out.keep P3.out (fun h => own_ne N2b.out C1.out (by decide) h))
      have g0 := D'.out.cell 1
      simp only [List.getElem?_toArray, List.getElem?_cons_succ, List.getElem?_cons_zero] at g0
      have z0 := D'.out.frozen 1
      have hfr2 : Hid (∀ b, (Value.slice B' (k + 1 : Nat) d').ownBlock = some b → (Value.slice A2 k c2).ownBlock = some b ∨ w6.heap.size ≤ b) := fun b h => by
        rcases hb with h' | h'
        · exact .inl (by rw [← h']; exact h)
        · right
          have := V1.out.size
          rw [h] at h'
          simp at h'
          omega
      have M' := Lib.hid hown
      clear hown hg hb q2
      (repeat' (first | (refine Mix.lex_quiet0 rfl rfl rfl ?_; intro K hK; go_big_quiet_op; go_big_quiet_on) | (refine Mix.lex_quietG rfl rfl rfl (by with_reducible rfl) rfl rfl ?_; intro K hK; go_big_quiet_op; go_big_quiet_on) | ((first | refine Mix.lex_skipT rfl rfl rfl (by with_reducible rfl) ?_ | refine Mix.lex_skipF rfl rfl rfl (by with_reducible rfl) ?_ | refine Mix.lex_skipU rfl rfl rfl (by with_reducible rfl) ?_); simp only [Act.put, List.setIfInBounds_toArray, List.set_cons_succ, List.set_cons_zero]) | (refine Mix.lex_part rfl rfl rfl rfl (fun hq => ?_) (fun hq => ?_) <;> (fail_if_success (guard_hyp hq :ₛ true = true)) <;> (fail_if_success (guard_hyp hq :ₛ false = false)) <;> first | (exfalso; cases hq; done) | (exfalso; simp only [decide_eq_true_eq, decide_eq_false_iff_not, beq_iff_eq, beq_eq_false_iff_ne, ne_eq, Int.not_lt, Int.not_le] at hq; omega) | simp only [Act.put, List.setIfInBounds_toArray, List.set_cons_succ, List.set_cons_zero])))
      ((first | refine Mix.lex_goes0 rfl rfl ?_ | refine Mix.lex_goesG rfl rfl rfl (by with_reducible rfl) rfl ?_); intro K hK; go_simp)
      refine hK _ _ (fun hne => absurd rfl hne) ?_
      clear hK K g0 z0
      simp only [Act.put, List.setIfInBounds_toArray, List.set_cons_succ, List.set_cons_zero]
      refine Mix.lex_nil ?_
      have hC := D'.out.set_ 1 (.slice B' (k + 1 : Nat) d')
      simp only [List.setIfInBounds_toArray, List.set_cons_succ, List.set_cons_zero] at hC
      have P4 : Only (fun b => b = w.heap.size) w7 (w7.setCell ⟨w.heap.size, 1, none⟩ (.slice B' (k + 1 : Nat) d')) := (Only.refl _ _).at_ 1 _
      have hdis : ∀ b, (Value.slice A' (k + 1 : Nat) c').ownBlock = some b → (Value.slice A2 k c2).ownBlock ≠ some b := fun b h h' => by
        rcases hfr.out b h with h2 | h2
        · exact HG.out.ne b h2 h'
        · have := lt_own N2.out h'; omega
      have hG' : Grows w (w7.setCell ⟨w.heap.size, 1, none⟩ (.slice B' (k + 1 : Nat) d')) w.heap.size (k + 1) A' B' c' d' := by
        have sz0 := HG.out.ext.size
        have sz1 : wr.heap.size ≤ w6.heap.size := Nat.le_trans O3.out.size O4.out.size
        have f1' : ∀ b, (Value.slice A' (k + 1 : Nat) c').ownBlock = some b → w.heap.size ≤ b := fun b h => by
          rcases hfr.out b h with h2 | h2
          · exact HG.out.f1 b h2
          · omega
        have f2' : ∀ b, (Value.slice B' (k + 1 : Nat) d').ownBlock = some b → w.heap.size ≤ b := fun b h => by
          rcases hfr2.out b h with h2 | h2
          · exact HG.out.f2 b h2
          · omega
        refine ⟨hC, ?_, ?_, ?_, f1', f2', ?_⟩
        · exact own_keep (own_keep N1b.out P3.out hdis) P4 hgN.out
        · rw [← rep_succ]
          exact own_keep M'.out P4 (fun b h e => own_ne M'.out D'.out (by decide) (by rw [h, e]))
        · intro b h h'
          rcases hfr2.out b h' with h2 | h2
          · exact hdis b h h2
          · have := lt_own N1b.out h; omega
        · have a1 : Ext w w5 := HG.out.ext.trans O3.out fun b hb h => by have := HG.out.f1 b h; omega
          have a2 : Ext w w6 := a1.trans O4.out fun b hb h => by omega
          have a3 : Ext w w7 := a2.trans P3.out fun b hb h => by have := HG.out.f2 b h; omega
          exact a3.trans P4 fun b hb h => by omega
      go_wp2
      go_roundw
      case rel => exact ⟨k + 1, by omega, by go_num, A', B', c', d', hG'⟩
      case measure => simp [intOf]; omega
    · have hkn : k = n := by omega
      subst hkn
      go_wp2
      go_ret2
      obtain ⟨kg, rfl⟩ := own_some HG.out.n1 h1
      obtain ⟨ng, rfl⟩ := own_some HG.out.n2 h1
      have hfull : full [] = zeros 340 := rfl
      have hG := HG.out
      refine ⟨⟨w.heap.size, kg, c1, ng, c2, .slice none 0 0⟩, rfl, ⟨?_, ?_, ?_, ?_, ?_, ?_⟩, hG.ext, ?_⟩
      · simpa [Dk.fresh, DkR.cells] using hG.cs
      · have := hG.n1
        rw [← hfull] at this
        simpa [Dk.fresh] using this
      · have := hG.n2
        rw [← hfull] at this
        simpa [Dk.fresh] using this
      · exact World.ownsRow_nil _ _ _ _
      · intro e
        exact hG.ne kg rfl (by simp only at e; rw [e]; rfl)
      · exact ⟨rfl, by simp [Dk.fresh]; omega, by simp [Dk.fresh]; omega, by simp [Dk.fresh], by simp [Dk.fresh], by simp [Dk.fresh]⟩
      · intro b hb
        rcases hb with h | h | h | h
        · simp at h; omega
        · exact hG.f1 b (by simp at h; rw [h]; rfl)
        · exact hG.f2 b (by simp at h; rw [h]; rfl)
        · simp [Value.ownBlock] at h
end Go.Proofs.Ytdiablabpaankaa
