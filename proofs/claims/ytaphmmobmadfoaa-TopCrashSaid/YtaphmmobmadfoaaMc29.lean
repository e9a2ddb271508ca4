/- Put together: St6, MixIn, Chk. -/
import Derived.Test.YtaphmmobmadfoaaMc28
import Derived.OrdersIn
import Derived.TacticsIn
import Derived.RangeFuncCalls
import Derived.Test.YtaphmmobmadfoaaMc02
import Derived.RangeFuncNested
import Derived.RangeFuncBound
import Derived.RangeFuncLeaves
import Derived.RangeFuncBox
import Derived.Shelf.Abstract
import Derived.WalkKit
import Derived.OwnWalkIn
import Derived.TacticsInMore
import Derived.LoopNIn
import Derived.LoopIn
import Derived.Test.YtaphmmobmadfoaaMc03
import Derived.Test.YtaphmmobmadfoaaProg
/- What else a store says: Rows, Room, many; Open of a disk that is not formatted. -/
namespace Go.Proofs.Ytaphmmobmadfoaa
open Go Go.RowKit
theorem SRoom_c {w : World} {S : StS} {dg : Nat} (h : StoreAt w S dg) (h1 : S.l.many ≤ 1000) (h2 : S.l.next ≤ S.l.many) :
    Calls Try.prog 15 #[pt S.g] w fun e w' => e = .returned (.int .i64 ((S.l.many - S.l.next : Nat) : Int)) ∧ Ext w w' := by
  have HR := Lib.hid (Room_c h.lg h1 h2)
  have c5 : w.cell? ⟨S.g, 5, none⟩ = some (pt S.l.g) := h.cs.cell 5
  clear h
  go_enter Try.func15, Try.ntmps15
  go_wp2_with (first | ((first | refine Mix.wpList_guarded rfl ?_ | refine Mix.wp_still (by kernel_rfl) (by kernel_rfl) ?_); (repeat' (first | (refine Mix.lex_quiet0 rfl rfl rfl ?_; intro K hK; go_big_quiet_op; go_big_quiet_on) | (refine Mix.lex_quietG rfl rfl rfl (by with_reducible rfl) rfl rfl ?_; intro K hK; go_big_quiet_op; go_big_quiet_on) | ((first | refine Mix.lex_skipT rfl rfl rfl (by with_reducible rfl) ?_ | refine Mix.lex_skipF rfl rfl rfl (by with_reducible rfl) ?_ | refine Mix.lex_skipU rfl rfl rfl (by with_reducible rfl) ?_); simp only [Act.put, List.setIfInBounds_toArray, List.set_cons_succ, List.set_cons_zero]) | (refine Mix.lex_part rfl rfl rfl rfl (fun hq => ?_) (fun hq => ?_) <;> (fail_if_success (guard_hyp hq :ₛ true = true)) <;> (fail_if_success (guard_hyp hq :ₛ false = false)) <;> first | (exfalso; cases hq; done) | (exfalso; simp only [decide_eq_true_eq, decide_eq_false_iff_not, beq_iff_eq, beq_eq_false_iff_ne, ne_eq, Int.not_lt, Int.not_le] at hq; omega) | simp only [Act.put, List.setIfInBounds_toArray, List.set_cons_succ, List.set_cons_zero]))); all_goals (refine Mix.lex_nil ?_)))
  refine HR.out.mono ?_
  rintro e w1 ⟨rfl, hu⟩
  go_wp2_with (first | ((first | refine Mix.wpList_guarded rfl ?_ | refine Mix.wp_still (by kernel_rfl) (by kernel_rfl) ?_); (repeat' (first | (refine Mix.lex_quiet0 rfl rfl rfl ?_; intro K hK; go_big_quiet_op; go_big_quiet_on) | (refine Mix.lex_quietG rfl rfl rfl (by with_reducible rfl) rfl rfl ?_; intro K hK; go_big_quiet_op; go_big_quiet_on) | ((first | refine Mix.lex_skipT rfl rfl rfl (by with_reducible rfl) ?_ | refine Mix.lex_skipF rfl rfl rfl (by with_reducible rfl) ?_ | refine Mix.lex_skipU rfl rfl rfl (by with_reducible rfl) ?_); simp only [Act.put, List.setIfInBounds_toArray, List.set_cons_succ, List.set_cons_zero]) | (refine Mix.lex_part rfl rfl rfl rfl (fun hq => ?_) (fun hq => ?_) <;> (fail_if_success (guard_hyp hq :ₛ true = true)) <;> (fail_if_success (guard_hyp hq :ₛ false = false)) <;> first | (exfalso; cases hq; done) | (exfalso; simp only [decide_eq_true_eq, decide_eq_false_iff_not, beq_iff_eq, beq_eq_false_iff_ne, ne_eq, Int.not_lt, Int.not_le] at hq; omega) | simp only [Act.put, List.setIfInBounds_toArray, List.set_cons_succ, List.set_cons_zero]))); all_goals (refine Mix.lex_nil ?_)))
  go_ret
  exact ⟨rfl, hu⟩
theorem SRows_c {w : World} {S : StS} {dg : Nat} (h : StoreAt w S dg) (h1 : S.rows.length ≤ 1000) :
    Calls Try.prog 17 #[pt S.g] w fun e w' => ∃ A c, e = .returned (.slice A S.rows.length c) ∧ Fresh chF 61 w w' A c S.rows := by
  have HC := Lib.hid (CloneChs_f (c := S.c) h.sl (h.sl.none_len) (by omega))
  have c6 : w.cell? ⟨S.g, 6, none⟩ = some (.slice S.A S.rows.length S.c) := h.cs.cell 6
  clear h
  go_enter Try.func17, Try.ntmps17
  go_wp2_with (first | ((first | refine Mix.wpList_guarded rfl ?_ | refine Mix.wp_still (by kernel_rfl) (by kernel_rfl) ?_); (repeat' (first | (refine Mix.lex_quiet0 rfl rfl rfl ?_; intro K hK; go_big_quiet_op; go_big_quiet_on) | (refine Mix.lex_quietG rfl rfl rfl (by with_reducible rfl) rfl rfl ?_; intro K hK; go_big_quiet_op; go_big_quiet_on) | ((first | refine Mix.lex_skipT rfl rfl rfl (by with_reducible rfl) ?_ | refine Mix.lex_skipF rfl rfl rfl (by with_reducible rfl) ?_ | refine Mix.lex_skipU rfl rfl rfl (by with_reducible rfl) ?_); simp only [Act.put, List.setIfInBounds_toArray, List.set_cons_succ, List.set_cons_zero]) | (refine Mix.lex_part rfl rfl rfl rfl (fun hq => ?_) (fun hq => ?_) <;> (fail_if_success (guard_hyp hq :ₛ true = true)) <;> (fail_if_success (guard_hyp hq :ₛ false = false)) <;> first | (exfalso; cases hq; done) | (exfalso; simp only [decide_eq_true_eq, decide_eq_false_iff_not, beq_iff_eq, beq_eq_false_iff_ne, ne_eq, Int.not_lt, Int.not_le] at hq; omega) | simp only [Act.put, List.setIfInBounds_toArray, List.set_cons_succ, List.set_cons_zero]))); all_goals (refine Mix.lex_nil ?_)))
  refine HC.out.mono ?_
  rintro e w1 ⟨A, c, rfl, hF⟩
  go_wp2_with (first | ((first | refine Mix.wpList_guarded rfl ?_ | refine Mix.wp_still (by kernel_rfl) (by kernel_rfl) ?_); (repeat' (first | (refine Mix.lex_quiet0 rfl rfl rfl ?_; intro K hK; go_big_quiet_op; go_big_quiet_on) | (refine Mix.lex_quietG rfl rfl rfl (by with_reducible rfl) rfl rfl ?_; intro K hK; go_big_quiet_op; go_big_quiet_on) | ((first | refine Mix.lex_skipT rfl rfl rfl (by with_reducible rfl) ?_ | refine Mix.lex_skipF rfl rfl rfl (by with_reducible rfl) ?_ | refine Mix.lex_skipU rfl rfl rfl (by with_reducible rfl) ?_); simp only [Act.put, List.setIfInBounds_toArray, List.set_cons_succ, List.set_cons_zero]) | (refine Mix.lex_part rfl rfl rfl rfl (fun hq => ?_) (fun hq => ?_) <;> (fail_if_success (guard_hyp hq :ₛ true = true)) <;> (fail_if_success (guard_hyp hq :ₛ false = false)) <;> first | (exfalso; cases hq; done) | (exfalso; simp only [decide_eq_true_eq, decide_eq_false_iff_not, beq_iff_eq, beq_eq_false_iff_ne, ne_eq, Int.not_lt, Int.not_le] at hq; omega) | simp only [Act.put, List.setIfInBounds_toArray, List.set_cons_succ, List.set_cons_zero]))); all_goals (refine Mix.lex_nil ?_)))
  go_ret
  exact ⟨A, c, rfl, hF⟩
/-- How many rows are of files. -/
def filesN (l : List Ch) : Nat := (l.filter fun x => x.1.getD 0 0 == 102).length
def manyB (l : List Ch) : Bool := decide (20 < filesN l) || decide (20 < l.length - filesN l)
theorem filesN_le (l : List Ch) : filesN l ≤ l.length := List.length_filter_le _ _
theorem filesN_snoc {l : List Ch} {j : Nat} {x : Ch} (h : l[j]? = some x) : filesN (l.take (j + 1)) = filesN (l.take j) + if x.1.getD 0 0 == 102 then 1 else 0 := by
  unfold filesN
  rw [List.take_add_one, h, List.filter_append, List.length_append]
  congr 1
  by_cases hc : (x.1.getD 0 0 == 102) = true
  · simp only [Option.toList_some, List.filter_cons, hc, if_true, List.filter_nil, List.length_singleton]
  · simp only [Option.toList_some, List.filter_cons, hc, if_false, List.filter_nil, List.length_nil, Bool.false_eq_true]
set_option maxRecDepth 100000 in
set_option maxHeartbeats 1000000 in
theorem Many_c {w : World} {A : Option Addr} {n c : Nat} {rows : List Ch} (h : SlR chF w A n rows) (hn : n ≤ 10000) (hb : ∀ x ∈ rows, 0 < x.1.length) :
    Calls Try.prog 40 #[.slice A n c] w fun e w' => e = .returned (.bool (manyB rows)) ∧ Ext w w' := by
  have HS := Lib.hid h
  have HB := Lib.hid hb
  have hnl := h.1
  have HMn : Hid (manyB rows = (decide (20 < filesN rows) || decide (20 < rows.length - filesN rows))) := rfl
  clear h hb
  go_enter Try.func40, Try.ntmps40
  go_wp2_with (first | ((first | refine Mix.wpList_guarded rfl ?_ | refine Mix.wp_still (by kernel_rfl) (by kernel_rfl) ?_); (repeat' (first | (refine Mix.lex_quiet0 rfl rfl rfl ?_; intro K hK; go_big_quiet_op; go_big_quiet_on) | (refine Mix.lex_quietG rfl rfl rfl (by with_reducible rfl) rfl rfl ?_; intro K hK; go_big_quiet_op; go_big_quiet_on) | ((first | refine Mix.lex_skipT rfl rfl rfl (by with_reducible rfl) ?_ | refine Mix.lex_skipF rfl rfl rfl (by with_reducible rfl) ?_ | refine Mix.lex_skipU rfl rfl rfl (by with_reducible rfl) ?_); simp only [Act.put, List.setIfInBounds_toArray, List.set_cons_succ, List.set_cons_zero]) | (refine Mix.lex_part rfl rfl rfl rfl (fun hq => ?_) (fun hq => ?_) <;> (fail_if_success (guard_hyp hq :ₛ true = true)) <;> (fail_if_success (guard_hyp hq :ₛ false = false)) <;> first | (exfalso; cases hq; done) | (exfalso; simp only [decide_eq_true_eq, decide_eq_false_iff_not, beq_iff_eq, beq_eq_false_iff_ne, ne_eq, Int.not_lt, Int.not_le] at hq; omega) | simp only [Act.put, List.setIfInBounds_toArray, List.set_cons_succ, List.set_cons_zero]))); all_goals (refine Mix.lex_nil ?_)))
  go_loopw [3, 8] (fun m i wr => ∃ j : Nat, j ≤ n ∧ i = .int .i64 j ∧ m = .int .i64 (filesN (rows.take j) : Nat) ∧ Ext w wr) (fun _ i _ => n - (intOf i).toNat)
  case atStart => exact ⟨0, Nat.zero_le _, rfl, by simp [filesN], Only.refl _ _⟩
  case round =>
    obtain ⟨j, hj, rfl, rfl, hx⟩ := hrel
    have XJ := Lib.hid hx
    clear hx
    have hfj := filesN_le (rows.take j)
    by_cases hlt : j < n
    · have glt : decide ((j : Int) < (n : Int)) = true := decide_eq_true (by omega)
      have glt' : decide (j < n) = true := decide_eq_true hlt
      obtain ⟨b, o, x, hAe, hyx, q0, q1, q2⟩ := chs_get HS.out hlt
      subst hAe
      have hx := HB.out _ (List.mem_of_getElem? hyx)
      have HSn := Lib.hid (filesN_snoc hyx)
      obtain ⟨key, val, gone⟩ := x
      dsimp only at hx
      have r0 := q0 ⟨wr, XJ.out⟩
      have r1 := q1 ⟨wr, XJ.out⟩
      have r2 := q2 ⟨wr, XJ.out⟩
      dsimp only at r0 r1 r2
      clear q0 q1 q2
      obtain ⟨k0, kr, rfl⟩ : ∃ a l, key = a :: l := by
        match key, hx with
        | a :: l, _ => exact ⟨a, l, rfl⟩
      have hlj : (rows.take j).length ≤ 10000 := by rw [List.length_take]; omega
      obtain ⟨m, hm⟩ : ∃ m, m = filesN (rows.take j) := ⟨_, rfl⟩
      rw [← hm] at hfj HSn ⊢
      clear hm
      have hm2 : m ≤ 10000 := by omega
      by_cases h102 : k0 = 102
      · have q : ((k0.toNat : Int) == 102) = true := by rw [h102]; rfl
        have HS2 : Hid (filesN (rows.take (j + 1)) = m + 1) := by rw [Hid, HSn.out, h102]; rfl
        subst h102
        go_wp2_with (first | ((first | refine Mix.wpList_guarded rfl ?_ | refine Mix.wp_still (by kernel_rfl) (by kernel_rfl) ?_); (repeat' (first | (refine Mix.lex_quiet0 rfl rfl rfl ?_; intro K hK; go_big_quiet_op; go_big_quiet_on) | (refine Mix.lex_quietG rfl rfl rfl (by with_reducible rfl) rfl rfl ?_; intro K hK; go_big_quiet_op; go_big_quiet_on) | ((first | refine Mix.lex_skipT rfl rfl rfl (by with_reducible rfl) ?_ | refine Mix.lex_skipF rfl rfl rfl (by with_reducible rfl) ?_ | refine Mix.lex_skipU rfl rfl rfl (by with_reducible rfl) ?_); simp only [Act.put, List.setIfInBounds_toArray, List.set_cons_succ, List.set_cons_zero]) | (refine Mix.lex_part rfl rfl rfl rfl (fun hq => ?_) (fun hq => ?_) <;> (fail_if_success (guard_hyp hq :ₛ true = true)) <;> (fail_if_success (guard_hyp hq :ₛ false = false)) <;> first | (exfalso; cases hq; done) | (exfalso; simp only [decide_eq_true_eq, decide_eq_false_iff_not, beq_iff_eq, beq_eq_false_iff_ne, ne_eq, Int.not_lt, Int.not_le] at hq; omega) | simp only [Act.put, List.setIfInBounds_toArray, List.set_cons_succ, List.set_cons_zero]))); all_goals (refine Mix.lex_nil ?_)))
        go_roundw
        case rel => exact ⟨j + 1, by omega, by go_num, by rw [HS2.out]; go_num, (XJ.out.alloc _)⟩
        case measure => simp [intOf]; omega
      · have q : ((k0.toNat : Int) == 102) = false := by rw [show (102 : Int) = ((102 : UInt8).toNat : Int) from rfl, u8_eq]; exact decide_eq_false h102
        have HS2 : Hid (filesN (rows.take (j + 1)) = m) := by
          rw [Hid, HSn.out]
          have : ((k0 :: kr).getD 0 0 == 102) = false := by show (k0 == 102) = false; rw [beq_eq_false_iff_ne]; exact h102
          simp only [this, Bool.false_eq_true, if_false, Nat.add_zero]
        go_wp2_with (first | ((first | refine Mix.wpList_guarded rfl ?_ | refine Mix.wp_still (by kernel_rfl) (by kernel_rfl) ?_); (repeat' (first | (refine Mix.lex_quiet0 rfl rfl rfl ?_; intro K hK; go_big_quiet_op; go_big_quiet_on) | (refine Mix.lex_quietG rfl rfl rfl (by with_reducible rfl) rfl rfl ?_; intro K hK; go_big_quiet_op; go_big_quiet_on) | ((first | refine Mix.lex_skipT rfl rfl rfl (by with_reducible rfl) ?_ | refine Mix.lex_skipF rfl rfl rfl (by with_reducible rfl) ?_ | refine Mix.lex_skipU rfl rfl rfl (by with_reducible rfl) ?_); simp only [Act.put, List.setIfInBounds_toArray, List.set_cons_succ, List.set_cons_zero]) | (refine Mix.lex_part rfl rfl rfl rfl (fun hq => ?_) (fun hq => ?_) <;> (fail_if_success (guard_hyp hq :ₛ true = true)) <;> (fail_if_success (guard_hyp hq :ₛ false = false)) <;> first | (exfalso; cases hq; done) | (exfalso; simp only [decide_eq_true_eq, decide_eq_false_iff_not, beq_iff_eq, beq_eq_false_iff_ne, ne_eq, Int.not_lt, Int.not_le] at hq; omega) | simp only [Act.put, List.setIfInBounds_toArray, List.set_cons_succ, List.set_cons_zero]))); all_goals (refine Mix.lex_nil ?_)))
        go_roundw
        case rel => exact ⟨j + 1, by omega, by go_num, by rw [HS2.out], (XJ.out.alloc _)⟩
        case measure => simp [intOf]; omega
    · obtain rfl : j = n := by omega
      have glt : decide ((j : Int) < (j : Int)) = false := decide_eq_false (by omega)
      have hfull : rows.take j = rows := List.take_of_length_le (by omega)
      rw [hfull] at hfj ⊢
      obtain ⟨m, hm⟩ : ∃ m, m = filesN rows := ⟨_, rfl⟩
      rw [← hm] at hfj HMn ⊢
      clear hm hfull
      by_cases h1 : 20 < m
      · have k1 : decide ((20 : Int) < (m : Int)) = true := decide_eq_true (by omega)
        have k1' : decide (20 < m) = true := decide_eq_true h1
        have HE : Hid (manyB rows = true) := by rw [Hid, HMn.out, k1']; rfl
        clear HMn
        go_wp2_with (first | ((first | refine Mix.wpList_guarded rfl ?_ | refine Mix.wp_still (by kernel_rfl) (by kernel_rfl) ?_); (repeat' (first | (refine Mix.lex_quiet0 rfl rfl rfl ?_; intro K hK; go_big_quiet_op; go_big_quiet_on) | (refine Mix.lex_quietG rfl rfl rfl (by with_reducible rfl) rfl rfl ?_; intro K hK; go_big_quiet_op; go_big_quiet_on) | ((first | refine Mix.lex_skipT rfl rfl rfl (by with_reducible rfl) ?_ | refine Mix.lex_skipF rfl rfl rfl (by with_reducible rfl) ?_ | refine Mix.lex_skipU rfl rfl rfl (by with_reducible rfl) ?_); simp only [Act.put, List.setIfInBounds_toArray, List.set_cons_succ, List.set_cons_zero]) | (refine Mix.lex_part rfl rfl rfl rfl (fun hq => ?_) (fun hq => ?_) <;> (fail_if_success (guard_hyp hq :ₛ true = true)) <;> (fail_if_success (guard_hyp hq :ₛ false = false)) <;> first | (exfalso; cases hq; done) | (exfalso; simp only [decide_eq_true_eq, decide_eq_false_iff_not, beq_iff_eq, beq_eq_false_iff_ne, ne_eq, Int.not_lt, Int.not_le] at hq; omega) | simp only [Act.put, List.setIfInBounds_toArray, List.set_cons_succ, List.set_cons_zero]))); all_goals (refine Mix.lex_nil ?_)))
        go_ret
        exact ⟨by rw [HE.out]; rfl, XJ.out⟩
      · have k1 : decide ((20 : Int) < (m : Int)) = false := decide_eq_false (by omega)
        have k1' : decide (20 < m) = false := decide_eq_false h1
        have k2 : ((j : Int) - (m : Int)) = ((j - m : Nat) : Int) := by omega
        have HE : Hid (manyB rows = decide ((20 : Int) < (j : Int) - (m : Int))) := by rw [Hid, HMn.out, k1', hnl, Bool.false_or, Bool.eq_iff_iff, decide_eq_true_iff, decide_eq_true_iff]; omega
        clear HMn k2
        go_wp2_with (first | ((first | refine Mix.wpList_guarded rfl ?_ | refine Mix.wp_still (by kernel_rfl) (by kernel_rfl) ?_); (repeat' (first | (refine Mix.lex_quiet0 rfl rfl rfl ?_; intro K hK; go_big_quiet_op; go_big_quiet_on) | (refine Mix.lex_quietG rfl rfl rfl (by with_reducible rfl) rfl rfl ?_; intro K hK; go_big_quiet_op; go_big_quiet_on) | ((first | refine Mix.lex_skipT rfl rfl rfl (by with_reducible rfl) ?_ | refine Mix.lex_skipF rfl rfl rfl (by with_reducible rfl) ?_ | refine Mix.lex_skipU rfl rfl rfl (by with_reducible rfl) ?_); simp only [Act.put, List.setIfInBounds_toArray, List.set_cons_succ, List.set_cons_zero]) | (refine Mix.lex_part rfl rfl rfl rfl (fun hq => ?_) (fun hq => ?_) <;> (fail_if_success (guard_hyp hq :ₛ true = true)) <;> (fail_if_success (guard_hyp hq :ₛ false = false)) <;> first | (exfalso; cases hq; done) | (exfalso; simp only [decide_eq_true_eq, decide_eq_false_iff_not, beq_iff_eq, beq_eq_false_iff_ne, ne_eq, Int.not_lt, Int.not_le] at hq; omega) | simp only [Act.put, List.setIfInBounds_toArray, List.set_cons_succ, List.set_cons_zero]))); all_goals (refine Mix.lex_nil ?_)))
        go_ret
        exact ⟨by rw [HE.out]; rfl, XJ.out⟩
end Go.Proofs.Ytaphmmobmadfoaa

/- A drawn region in the round of a range over a function. -/
namespace Go.Proofs.Ytaphmmobmadfoaa
open Go Go.RowKit
namespace Mix
/-- The fence of a round, nothing else asked. -/
abbrev rnd (l : Nat) : Fence := Fence.wide.inRound l
def noDef (ops : Array Oper) : Bool := ops.all fun o => match o.op with | .defer _ => false | _ => true
section
variable {P : Program} {ops : Array Oper} {C : World → Prop} {E : List Nat} {N : Nat} {l n : Nat}
theorem noDef_at (h : noDef ops = true) {i : Nat} {o : Oper} (ho : ops[i]? = some o) : ∀ c, o.op ≠ .defer c := fun c e => by
  have := Array.all_eq_true'.1 h o (Array.mem_of_getElem? ho)
  rw [e] at this
  cases this
theorem wpIn_of_goes {o : Oper} (hnd : ∀ c, o.op ≠ .defer c) {a : Act} {w : World} {K : Act → World → Prop} {Q : Exit → Act → World → Prop} {N : Value → World → Prop}
    (h : ∀ v w', N v w' → K (a.put o.dst v) w') (hh : goes P o a w N) : o.wpIn (rnd l) n P a w K Q := by
  refine ⟨fun f _ => trivial, ?_⟩
  rw [Oper.semAt_eq _ _ _ hnd]
  unfold goes at hh
  generalize (execOp a.eval o).run P w = r at *
  unfold goesUpon at hh
  split at hh
  · exact h _ _ hh
  · exact h _ _ hh
  · refine ⟨fun h => (by cases h), ?_⟩
    exact CallsIn.inRound l (callsIn_wide.2 (hh.mono fun e w ⟨v, he, hn⟩ => by subst he; exact h _ _ hn))
  · exact hh.elim
theorem wpOpIn_of_mOp (hD : noDef ops = true) {Q : Exit → Act → World → Prop} {i : Nat} {a : Act} {w : World} {K K' : Act → World → Prop} (hC : C w) (h : ∀ a w, (i ≠ N → C w) → K a w → K' a w) (hh : mOp P ops C E N i K a w) : wpOpIn (rnd l) n P ops Q i K' a w := by
  unfold mOp at hh
  unfold wpOpIn
  split
  · rename_i e; simp only [e] at hh; exact h _ _ (fun _ => hC) hh
  · rename_i o e
    simp only [e] at hh
    unfold step at hh
    split
    · rename_i hw
      rw [if_pos hw] at hh
      split at hh
      · exact wpIn_of_goes (noDef_at hD e) (fun v w' ⟨c, k⟩ => h _ _ c k) hh
      · obtain ⟨hc, v, hq, k⟩ := hh
        have hv := hq w hC
        have hn := fun f args w' => exec_noEnter (P := P) hc (ρ := a.eval) (w := w) (w' := w') (f := f) (args := args)
        refine ⟨fun f _ => trivial, ?_⟩
        rw [Oper.semAt_eq _ _ _ (noDef_at hD e)]
        unfold Oper.quietAt at hv
        generalize (execOp a.eval o).run P w = r at *
        unfold Oper.quietUpon at hv
        split at hv
        · obtain ⟨e1, e2⟩ := hv; subst e1; subst e2; exact h _ _ (fun _ => hC) k
        · obtain ⟨e1, e2⟩ := hv; subst e1; subst e2; exact h _ _ (fun _ => hC) k
        · exact absurd rfl (hn _ _ _)
        · exact hv.elim
    · rename_i hw
      rw [if_neg hw] at hh
      exact ⟨fun f _ => trivial, h _ _ (fun _ => hC) hh⟩
theorem wpAnyIn_done {md : Region.Mode} {Q' : Exit → Act → World → Prop} {listed : Array Bool} {a : Act} {w : World} (hr : Region.ready md ops listed = []) (hQ : Q' .normal a w) : ∀ fuel, wpAnyIn (rnd l) n P md ops Q' fuel listed a w
  | 0 => ⟨hr, hQ⟩
  | _ + 1 => ⟨fun _ => hQ, fun i hi => by rw [hr] at hi; cases hi⟩
theorem wpAnyIn_of_any {md : Region.Mode} (hD : noDef ops = true) {Q' : Exit → Act → World → Prop} : ∀ (fuel : Nat) (listed : Array Bool) (a : Act) (w : World), C w →
    any P md ops C E N (fun a w => Q' .normal a w) fuel listed a w → wpAnyIn (rnd l) n P md ops Q' fuel listed a w
  | 0, _, _, _, _, h => h
  | fuel + 1, _, _, _, hw, h => ⟨h.1, fun i hi => wpOpIn_of_mOp hD hw (fun a' w' hC' k => by
      by_cases hiN : i = N
      · rw [if_pos hiN] at k
        exact wpAnyIn_done k.1 k.2 fuel
      · rw [if_neg hiN] at k
        exact wpAnyIn_of_any hD fuel _ a' w' (hC' hiN) k) (h.2 i hi)⟩
/-- **A region that draws its order, in a round.** -/
theorem wpIn_draw {id : Nat} {Q : Exit → Act → World → Prop} {a : Act} {w : World} {L : List Oper} (E : List Nat) (N : Nat) (C : World → Prop) (hm : P.follows .mixedOrders = true)
    (hB : (noDef L.toArray && (Region.lexB .any L.toArray && orderB .any L.toArray E N && freeE .any L.toArray E)) = true) (hC : C w.drew)
    (h : lex P L.toArray C E N (fun a' w' => Q .normal a' w') 0 L a w.drew) : (Code.region id L.toArray true).wpIn (rnd l) n P Q a w := by
  simp only [Bool.and_eq_true] at hB
  obtain ⟨hD, ⟨hB, hO⟩, hF⟩ := hB
  simp only [Region.lexB, Bool.and_eq_true] at hB
  refine wpIn_region_any hm (wpAnyIn_of_any hD (C := C) (E := E) (N := N) _ _ _ _ hC ?_)
  have := any_lex (C := C) (E := E) (N := N) (md := .any) hB.1 hO hF L 0 (Array.replicate L.toArray.size false) a w.drew hC (by simp) (by simp) (fun j _ hj => by simp at hj; simp [hj]) (fun j hj => by omega) (by simpa using hB.2) h
  simpa using this
end
end Mix
end Go.Proofs.Ytaphmmobmadfoaa

/- slices.Chunk over bytes: what it yields. -/
namespace Go.Proofs.Ytaphmmobmadfoaa
open Go Go.RowKit
attribute [local go_sem] Oper.semAt_some
/-- What Chunk asks of the body: its two boxes stay. -/
def KpC (Bs Bn : Nat) (W W' : World) : Prop := W'.cell? ⟨Bs, 0, none⟩ = W.cell? ⟨Bs, 0, none⟩ ∧ W'.cell? ⟨Bn, 0, none⟩ = W.cell? ⟨Bn, 0, none⟩
theorem KpC.trans {Bs Bn : Nat} {A B C : World} (h : KpC Bs Bn A B) (k : KpC Bs Bn B C) : KpC Bs Bn A C := ⟨k.1.trans h.1, k.2.trans h.2⟩
/-- The number of chunks. -/
def chN (L : Nat) : Nat := (L + 339) / 340
abbrev ckV (bb L k : Nat) : Value := .slice (some ⟨bb, 340 * k, none⟩) (min 340 (L - 340 * k) : Nat) (min 340 (L - 340 * k) : Nat)
abbrev ckFn : Nat := 69
set_option maxRecDepth 100000 in
set_option maxHeartbeats 2000000 in
theorem chunk1_in (n : Nat) (hn : 1 ≤ n) (l Bs Bn bb L cap : Nat) (hLc : L ≤ cap) (hcm : cap ≤ maxLen) (hL : L ≤ 1000000) (J Jx : List Nat → World → Prop) (hJd : ∀ pre W, J pre W → J pre W.drew)
    (hY : ∀ pre k W1, J pre W1 → pre.length < chN L → YieldAt Fence.wide (n - 1) Try.prog l #[ckV bb L k] W1 fun e W' => (e = .returned (.bool true) ∧ J (pre ++ [k]) W' ∧ KpC Bs Bn W1 W') ∨ (e = .returned (.bool false) ∧ Jx (pre ++ [k]) W'))
    (W : World) (hBs : W.cell? ⟨Bs, 0, none⟩ = some (.slice (some ⟨bb, 0, none⟩) L cap)) (hBn : W.cell? ⟨Bn, 0, none⟩ = some (.int .i64 340)) (h0 : J [] W) :
    CallsIn Fence.wide n Try.prog ckFn #[.func (.yield l) #[] #[], .pointer (some ⟨Bs, 0, none⟩), .pointer (some ⟨Bn, 0, none⟩)] W fun e W' => (∃ v, e = .returned v) ∧
      ((∃ xs, xs = List.range (chN L) ∧ J xs W') ∨ (∃ pre, (∃ k, k ≤ chN L ∧ pre = List.range k) ∧ Jx pre W')) := by
  refine callsIn_of_wp Try.func69 rfl trivial ?_ rfl
  simp only [Try.ntmps69, List.size_toArray, List.length_cons, List.length_nil, Nat.reduceAdd, Nat.reduceSub, Array.replicate_succ, Array.replicate_zero, List.push_toArray, List.append_toArray, List.nil_append, List.cons_append]
  gi_wp2
  gi_loopw [4] (fun i wr => ∃ k : Nat, k ≤ chN L ∧ i = .int .i64 ((340 * k : Nat) : Int) ∧ J (List.range k) wr ∧ KpC Bs Bn W wr) (fun i _ => 1000000 + 340 - (intOf i).toNat)
  case atStart => exact ⟨0, Nat.zero_le _, rfl, h0, rfl, rfl⟩
  case round =>
    obtain ⟨k, hk, rfl, hJs, hkp⟩ := hrel
    have HJs := Lib.hid hJs
    have HKp := Lib.hid hkp
    have q1 : wr.cell? ⟨Bs, 0, none⟩ = some (.slice (some ⟨bb, 0, none⟩) L cap) := hkp.1.trans hBs
    have q2 : wr.cell? ⟨Bn, 0, none⟩ = some (.int .i64 340) := hkp.2.trans hBn
    clear hJs hkp
    obtain ⟨i, hi⟩ : ∃ i, i = 340 * k := ⟨_, rfl⟩
    have HI := Lib.hid hi
    have hML : k < chN L ↔ 340 * k < L := by unfold chN; omega
    rw [← hi]
    by_cases hlt : k < chN L
    · have hil : i < L := by rw [hi]; exact hML.1 hlt
      have glt : decide ((i : Int) < (L : Int)) = true := decide_eq_true (by omega)
      have glt' : decide (i < L) = true := decide_eq_true hil
      clear hi hML
      gi_wp2
      have Q1 : ∀ ξ : X wr No, ξ.v.cell? ⟨Bs, 0, none⟩ = some (.slice (some ⟨bb, 0, none⟩) L cap) := fun ξ => (ξ.h.cell (World.block_lt_of_cell? _ _ q1) id).trans q1
      have Q2 : ∀ ξ : X wr No, ξ.v.cell? ⟨Bn, 0, none⟩ = some (.int .i64 340) := fun ξ => (ξ.h.cell (World.block_lt_of_cell? _ _ q2) id).trans q2
      have gm : min (340 : Int) ((L : Int) - (i : Int)) = ((min 340 (L - i) : Nat) : Int) := by omega
      have hcap : i < cap := by omega
      refine wpIn_wide.2 ?_
      (refine Mix.wp_draw [] 100 (Cl (wr) (No)) (by kernel_rfl) (by kernel_rfl) (Cl.drew_ (X.here wr No)) ?_; (repeat' (first | (refine Mix.lex_quiet0 rfl rfl rfl ?_; intro K hK; go_big_quiet_op; go_big_quiet_on) | (refine Mix.lex_quietG rfl rfl rfl (by with_reducible rfl) rfl rfl ?_; intro K hK; go_big_quiet_op; go_big_quiet_on) | ((first | refine Mix.lex_skipT rfl rfl rfl (by with_reducible rfl) ?_ | refine Mix.lex_skipF rfl rfl rfl (by with_reducible rfl) ?_ | refine Mix.lex_skipU rfl rfl rfl (by with_reducible rfl) ?_); simp only [Act.put, List.setIfInBounds_toArray, List.set_cons_succ, List.set_cons_zero]) | (refine Mix.lex_part rfl rfl rfl rfl (fun hq => ?_) (fun hq => ?_) <;> (fail_if_success (guard_hyp hq :ₛ true = true)) <;> (fail_if_success (guard_hyp hq :ₛ false = false)) <;> first | (exfalso; cases hq; done) | (exfalso; simp only [decide_eq_true_eq, decide_eq_false_iff_not, beq_iff_eq, beq_eq_false_iff_ne, ne_eq, Int.not_lt, Int.not_le] at hq; omega) | simp only [Act.put, List.setIfInBounds_toArray, List.set_cons_succ, List.set_cons_zero]))))
      all_goals (refine Mix.lex_nil ?_)
      first | rw [show (if ((L - i : Nat) : Int) < 340 then ((L - i : Nat) : Int) else 340) = ((min 340 (L - i) : Nat) : Int) by split <;> omega] | rw [show min (340 : Int) ((L - i : Nat) : Int) = ((min 340 (L - i) : Nat) : Int) by omega]
      obtain ⟨v1, hv1⟩ : ∃ v, v = wr.drew := ⟨_, rfl⟩
      have J1 : Hid (J (List.range k) v1) := by rw [Hid, hv1]; exact hJd _ _ HJs.out
      have K1 : Hid (KpC Bs Bn W v1) := by rw [hv1]; exact HKp.out
      have q1' : v1.cell? ⟨Bs, 0, none⟩ = some (.slice (some ⟨bb, 0, none⟩) L cap) := by rw [hv1]; exact q1
      have q2' : v1.cell? ⟨Bn, 0, none⟩ = some (.int .i64 340) := by rw [hv1]; exact q2
      rw [← hv1]
      clear hv1 Q1 Q2 q1 q2 HJs HKp
      obtain ⟨fn, tmps, assign, body, hy, hR⟩ := hY _ k v1 J1.out (by rw [List.length_range]; exact hlt)
      unfold ckV at hy
      rw [← HI.out] at hy
      obtain ⟨e, he⟩ : ∃ e, e = min 340 (L - i) := ⟨_, rfl⟩
      rw [← he] at hy ⊢
      have he1 : e ≤ 340 := by omega
      have he2 : i + e ≤ L := by omega
      have he3 : 1 ≤ e := by omega
      have HE := Lib.hid he
      have t1 : i + e - i = e := by omega
      have hic : i + e ≤ cap := by omega
      have hns : List.range (k + 1) = List.range k ++ [k] := List.range_succ
      clear he gm
      gi_wp2
      refine hR.mono ?_
      rintro e3 W3 (⟨rfl, hJ3, hk3⟩ | ⟨rfl, hJx3⟩)
      · have q2 : W3.cell? ⟨Bn, 0, none⟩ = some (.int .i64 340) := hk3.2.trans q2'
        have hik : i ≤ 1000000 := by omega
        clear q1' q2'
        gi_wp2
        go_roundw
        case rel => exact ⟨k + 1, by omega, (by rw [HI.out]; first | go_num | (congr 1; omega)), (by rw [hns]; exact hJ3), K1.out.trans hk3⟩
        case measure => simp [intOf] <;> omega
      · gi_wp2
        refine bodyPost_ret (results_none rfl _ _ _) rfl ?_
        exact ⟨⟨_, rfl⟩, .inr ⟨_, ⟨k + 1, by omega, hns.symm⟩, hJx3⟩⟩
    · obtain rfl : k = chN L := by omega
      have glt : decide ((i : Int) < (L : Int)) = false := decide_eq_false (by have := hML; omega)
      have glt' : decide (i < L) = false := decide_eq_false (by have := hML; omega)
      gi_wp2
      go_end0
      exact ⟨⟨_, rfl⟩, .inl ⟨_, rfl, HJs.out⟩⟩
theorem chunk_in (n : Nat) (b L cap : Nat) (w : World) :
    CallsIn Fence.wide n Try.prog 46 #[.slice (some ⟨b, 0, none⟩) L cap, .int .i64 340] w fun e w' => e = .returned (.func (.func ckFn) #[] #[.pointer (some ⟨w.heap.size, 0, none⟩), .pointer (some ⟨w.heap.size + 1, 0, none⟩)]) ∧ w' = (w.alloc (.cells #[.slice (some ⟨b, 0, none⟩) L cap] 93)).alloc (.cells #[.int .i64 340] 3) := by
  refine callsIn_of_wp Try.func46 rfl trivial ?_ rfl
  simp only [Try.ntmps46, List.size_toArray, List.length_cons, List.length_nil, Nat.reduceAdd, Nat.reduceSub, Array.replicate_succ, Array.replicate_zero, List.push_toArray, List.append_toArray, List.nil_append, List.cons_append]
  gi_wp2
  go_ret
  exact ⟨rfl, rfl⟩
theorem chunk_stops (n : Nat) (hn : 1 ≤ n) (Bs Bn bb L cap : Nat) (hLc : L ≤ cap) (hcm : cap ≤ maxLen) (hL : L ≤ 1000000) (w : World) (hBs : w.cell? ⟨Bs, 0, none⟩ = some (.slice (some ⟨bb, 0, none⟩) L cap)) (hBn : w.cell? ⟨Bn, 0, none⟩ = some (.int .i64 340)) :
    SeqStopsK Fence.wide n Try.prog ckFn #[.pointer (some ⟨Bs, 0, none⟩), .pointer (some ⟨Bn, 0, none⟩)] (fun k : Nat => #[ckV bb L k]) (KpC Bs Bn) (fun xs => xs = List.range (chN L)) (fun pre => ∃ k, k ≤ chN L ∧ pre = List.range k) (chN L) w := fun l J Jx W hW hJ _ hY h0 =>
  chunk1_in n hn l Bs Bn bb L cap hLc hcm hL J Jx (fun pre W1 h => hJ pre W1 W1.drew none h ⟨rfl, rfl, rfl, Nat.le_refl _, fun _ _ _ => rfl⟩ (fun r e => by cases e)) hY W ((hW.cell (p := ⟨Bs, 0, none⟩) (World.block_lt_of_cell? _ _ hBs)).trans hBs) ((hW.cell (p := ⟨Bn, 0, none⟩) (World.block_lt_of_cell? _ _ hBn)).trans hBn) h0
end Go.Proofs.Ytaphmmobmadfoaa
