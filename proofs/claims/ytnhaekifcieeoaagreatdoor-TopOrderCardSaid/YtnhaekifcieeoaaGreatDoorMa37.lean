/- Put together: Files4, Gxb. -/
import Derived.Test.YtnhaekifcieeoaaGreatDoorMa36
import Derived.Test.YtnhaekifcieeoaaGreatDoorMa12
import Derived.Test.YtnhaekifcieeoaaGreatDoorMa14
import Derived.Test.YtnhaekifcieeoaaGreatDoorMa30
import Derived.Test.YtnhaekifcieeoaaGreatDoorMa34
import Derived.Test.YtnhaekifcieeoaaGreatDoorMa19
/- files.Check, the document's fault, LightFiles, filed. -/
namespace Go.Proofs.YtnhaekifcieeoaaGreatDoor
open Go Go.RowKit
def faultF (f : File) : Int := if nameB f.1 then (if 20 < f.2.length then 2 else 0) else 3
theorem faultF_nonneg (f : File) : 0 ≤ faultF f := by unfold faultF; split <;> (try split) <;> omega
theorem errV_ne {n : Int} (h : n ≠ 0) : errV n = E n := if_neg h
theorem ret_i {a b : Int} (h : a = b) : Ending.returned (.int .i64 a) = .returned (.int .i64 b) := by rw [h]
/-- Few files, not too long, rising? -/
def lightF1 (f : File) : Bool := decide (f.1.length ≤ 20) && decide (f.2.length ≤ 60)
def lightF (l : List File) : Bool := decide (l.length ≤ 24) && l.all lightF1 && riseB fk l
theorem all_take_succ' {α : Type} {p : α → Bool} {l : List α} {k : Nat} {x : α} (h : (l.take k).all p = true) (hx : l[k]? = some x) (hp : p x = true) : (l.take (k + 1)).all p = true := by
  rw [List.take_add_one, hx]
  simp only [Option.toList, List.all_append, h, List.all_cons, hp, List.all_nil, Bool.and_self]
theorem all_false_at' {α : Type} {p : α → Bool} {l : List α} {k : Nat} {x : α} (hx : l[k]? = some x) (hp : p x = false) : l.all p = false := by
  rw [List.all_eq_false]
  exact ⟨x, List.mem_of_getElem? hx, by rw [hp]; exact Bool.false_ne_true⟩
set_option maxRecDepth 100000 in
set_option maxHeartbeats 1000000 in
theorem LightFiles_c {w : World} {A : Option Addr} {n c : Nat} {xs : List File} (h : SlR fileF w A n xs) (hn0 : n ≤ maxLen) :
    Calls Tryz.prog 9 #[.slice A n c] w fun e w' => e = .returned (.bool (lightF xs)) ∧ Ext w w' := by
  unfold maxLen at hn0
  by_cases hn : n ≤ 24
  · have HN : Hid (decide (xs.length ≤ 24) = true) := by rw [Hid, h.1]; simpa using hn
    go_enter Tryz.func9, Tryz.ntmps9
    go_wp2_with (first | ((first | refine Mix.wpList_guarded rfl ?_ | refine Mix.wp_still (by kernel_rfl) (by kernel_rfl) ?_); (repeat' (first | (refine Mix.lex_quiet0 rfl rfl rfl ?_; intro K hK; go_big_quiet_op; go_big_quiet_on) | (refine Mix.lex_quietG rfl rfl rfl (by with_reducible rfl) rfl rfl ?_; intro K hK; go_big_quiet_op; go_big_quiet_on) | ((first | refine Mix.lex_skipT rfl rfl rfl (by with_reducible rfl) ?_ | refine Mix.lex_skipF rfl rfl rfl (by with_reducible rfl) ?_ | refine Mix.lex_skipU rfl rfl rfl (by with_reducible rfl) ?_); simp only [Act.put, List.setIfInBounds_toArray, List.set_cons_succ, List.set_cons_zero]) | (refine Mix.lex_part rfl rfl rfl rfl (fun hq => ?_) (fun hq => ?_) <;> (fail_if_success (guard_hyp hq :ₛ true = true)) <;> (fail_if_success (guard_hyp hq :ₛ false = false)) <;> first | (exfalso; cases hq; done) | (exfalso; simp only [decide_eq_true_eq, decide_eq_false_iff_not, beq_iff_eq, beq_eq_false_iff_ne, ne_eq, Int.not_lt, Int.not_le] at hq; omega) | simp only [Act.put, List.setIfInBounds_toArray, List.set_cons_succ, List.set_cons_zero]))); all_goals (refine Mix.lex_nil ?_)))
    go_loopw [3] (fun i wr => ∃ k : Nat, k ≤ n ∧ i = .int .i64 k ∧ (xs.take k).all lightF1 = true ∧ (∀ i x y, i + 1 < k → xs[i]? = some x → xs[i + 1]? = some y → fk x < fk y) ∧ ∃ ξ : X w No, wr = ξ.v) (fun i _ => n - (intOf i).toNat)
    case atStart => exact ⟨0, Nat.zero_le _, rfl, rfl, fun i x y hi => by omega, X.here _ _, rfl⟩
    case round =>
      obtain ⟨k, hk, rfl, hT, hR, ξ, rfl⟩ := hrel
      have HT := Lib.hid hT
      have HR := Lib.hid hR
      clear hT hR
      by_cases hlt : k < n
      · obtain ⟨b, o, x, rfl, hx, c0, c1⟩ := files_get h hlt
        have HX := Lib.hid hx
        clear hx
        by_cases h1 : x.1.length ≤ 20
        · by_cases h2 : x.2.length ≤ 60
          · have hp : Hid (lightF1 x = true) := by unfold Hid lightF1; rw [decide_eq_true h1, decide_eq_true h2]; rfl
            have g1 : decide ((20 : Int) < (x.1.length : Int)) = false := by rw [decide_eq_false_iff_not]; omega
            have g2 : decide ((60 : Int) < (x.2.length : Int)) = false := by rw [decide_eq_false_iff_not]; omega
            by_cases h0 : k = 0
            · have hz : decide (0 < k) = false := by rw [decide_eq_false_iff_not]; omega
              have H0 := Lib.hid h0
              clear h0
              go_wp2_with (first | ((first | refine Mix.wpList_guarded rfl ?_ | refine Mix.wp_still (by kernel_rfl) (by kernel_rfl) ?_); (repeat' (first | (refine Mix.lex_quiet0 rfl rfl rfl ?_; intro K hK; go_big_quiet_op; go_big_quiet_on) | (refine Mix.lex_quietG rfl rfl rfl (by with_reducible rfl) rfl rfl ?_; intro K hK; go_big_quiet_op; go_big_quiet_on) | ((first | refine Mix.lex_skipT rfl rfl rfl (by with_reducible rfl) ?_ | refine Mix.lex_skipF rfl rfl rfl (by with_reducible rfl) ?_ | refine Mix.lex_skipU rfl rfl rfl (by with_reducible rfl) ?_); simp only [Act.put, List.setIfInBounds_toArray, List.set_cons_succ, List.set_cons_zero]) | (refine Mix.lex_part rfl rfl rfl rfl (fun hq => ?_) (fun hq => ?_) <;> (fail_if_success (guard_hyp hq :ₛ true = true)) <;> (fail_if_success (guard_hyp hq :ₛ false = false)) <;> first | (exfalso; cases hq; done) | (exfalso; simp only [decide_eq_true_eq, decide_eq_false_iff_not, beq_iff_eq, beq_eq_false_iff_ne, ne_eq, Int.not_lt, Int.not_le] at hq; omega) | simp only [Act.put, List.setIfInBounds_toArray, List.set_cons_succ, List.set_cons_zero]))); all_goals (refine Mix.lex_nil ?_)))
              go_roundw
              case rel => exact ⟨k + 1, by omega, by go_num, all_take_succ' HT.out HX.out hp.out, fun i x y hi => (by have := H0.out; omega), ⟨_, ξ.h.drew⟩, rfl⟩
              case measure => simp [intOf]; omega
            · obtain ⟨b', o', y, hA, hy, e0, _⟩ := files_get h (show k - 1 < n by omega)
              injection hA with hA
              injection hA with hA1 hA2
              subst hA1; subst hA2
              obtain ⟨m, rfl⟩ : ∃ m, k = m + 1 := ⟨k - 1, by omega⟩
              have hz : decide (0 < m + 1) = true := by rw [decide_eq_true_iff]; omega
              rw [Nat.add_sub_cancel] at e0 hy
              have HY := Lib.hid hy
              clear hy h0
              cases hq : leB x.1 y.1 with
              | true =>
                have HB : Hid (riseB fk xs = false) := by
                  cases hb : riseB fk xs with
                  | false => rfl
                  | true => exact absurd (riseB_iff.1 hb m y x HY.out HX.out) (sle_iff.1 (leB_true hq))
                go_wp2_with (first | ((first | refine Mix.wpList_guarded rfl ?_ | refine Mix.wp_still (by kernel_rfl) (by kernel_rfl) ?_); (repeat' (first | (refine Mix.lex_quiet0 rfl rfl rfl ?_; intro K hK; go_big_quiet_op; go_big_quiet_on) | (refine Mix.lex_quietG rfl rfl rfl (by with_reducible rfl) rfl rfl ?_; intro K hK; go_big_quiet_op; go_big_quiet_on) | ((first | refine Mix.lex_skipT rfl rfl rfl (by with_reducible rfl) ?_ | refine Mix.lex_skipF rfl rfl rfl (by with_reducible rfl) ?_ | refine Mix.lex_skipU rfl rfl rfl (by with_reducible rfl) ?_); simp only [Act.put, List.setIfInBounds_toArray, List.set_cons_succ, List.set_cons_zero]) | (refine Mix.lex_part rfl rfl rfl rfl (fun hq => ?_) (fun hq => ?_) <;> (fail_if_success (guard_hyp hq :ₛ true = true)) <;> (fail_if_success (guard_hyp hq :ₛ false = false)) <;> first | (exfalso; cases hq; done) | (exfalso; simp only [decide_eq_true_eq, decide_eq_false_iff_not, beq_iff_eq, beq_eq_false_iff_ne, ne_eq, Int.not_lt, Int.not_le] at hq; omega) | simp only [Act.put, List.setIfInBounds_toArray, List.set_cons_succ, List.set_cons_zero]))); all_goals (refine Mix.lex_nil ?_)))
                go_ret
                exact ⟨ret_bool (by unfold lightF; rw [HB.out, Bool.and_false]), ξ.h.drew⟩
              | false =>
                have hyx : Hid (fk y < fk x) := leB_false hq
                go_wp2_with (first | ((first | refine Mix.wpList_guarded rfl ?_ | refine Mix.wp_still (by kernel_rfl) (by kernel_rfl) ?_); (repeat' (first | (refine Mix.lex_quiet0 rfl rfl rfl ?_; intro K hK; go_big_quiet_op; go_big_quiet_on) | (refine Mix.lex_quietG rfl rfl rfl (by with_reducible rfl) rfl rfl ?_; intro K hK; go_big_quiet_op; go_big_quiet_on) | ((first | refine Mix.lex_skipT rfl rfl rfl (by with_reducible rfl) ?_ | refine Mix.lex_skipF rfl rfl rfl (by with_reducible rfl) ?_ | refine Mix.lex_skipU rfl rfl rfl (by with_reducible rfl) ?_); simp only [Act.put, List.setIfInBounds_toArray, List.set_cons_succ, List.set_cons_zero]) | (refine Mix.lex_part rfl rfl rfl rfl (fun hq => ?_) (fun hq => ?_) <;> (fail_if_success (guard_hyp hq :ₛ true = true)) <;> (fail_if_success (guard_hyp hq :ₛ false = false)) <;> first | (exfalso; cases hq; done) | (exfalso; simp only [decide_eq_true_eq, decide_eq_false_iff_not, beq_iff_eq, beq_eq_false_iff_ne, ne_eq, Int.not_lt, Int.not_le] at hq; omega) | simp only [Act.put, List.setIfInBounds_toArray, List.set_cons_succ, List.set_cons_zero]))); all_goals (refine Mix.lex_nil ?_)))
                go_roundw
                case rel =>
                  refine ⟨m + 2, by omega, by go_num, all_take_succ' HT.out HX.out hp.out, fun i x' y' hi hx' hy' => ?_, ⟨_, ξ.h.drew⟩, rfl⟩
                  by_cases e : i = m
                  · subst e
                    rw [HY.out] at hx'
                    rw [HX.out] at hy'
                    injection hx' with hx'
                    injection hy' with hy'
                    rw [← hx', ← hy']
                    exact hyx.out
                  · exact HR.out i x' y' (by omega) hx' hy'
                case measure => simp [intOf]; omega
          · have HB : Hid (xs.all lightF1 = false) := all_false_at' HX.out (by unfold lightF1; rw [decide_eq_false h2, Bool.and_false])
            go_wp2_with (first | ((first | refine Mix.wpList_guarded rfl ?_ | refine Mix.wp_still (by kernel_rfl) (by kernel_rfl) ?_); (repeat' (first | (refine Mix.lex_quiet0 rfl rfl rfl ?_; intro K hK; go_big_quiet_op; go_big_quiet_on) | (refine Mix.lex_quietG rfl rfl rfl (by with_reducible rfl) rfl rfl ?_; intro K hK; go_big_quiet_op; go_big_quiet_on) | ((first | refine Mix.lex_skipT rfl rfl rfl (by with_reducible rfl) ?_ | refine Mix.lex_skipF rfl rfl rfl (by with_reducible rfl) ?_ | refine Mix.lex_skipU rfl rfl rfl (by with_reducible rfl) ?_); simp only [Act.put, List.setIfInBounds_toArray, List.set_cons_succ, List.set_cons_zero]) | (refine Mix.lex_part rfl rfl rfl rfl (fun hq => ?_) (fun hq => ?_) <;> (fail_if_success (guard_hyp hq :ₛ true = true)) <;> (fail_if_success (guard_hyp hq :ₛ false = false)) <;> first | (exfalso; cases hq; done) | (exfalso; simp only [decide_eq_true_eq, decide_eq_false_iff_not, beq_iff_eq, beq_eq_false_iff_ne, ne_eq, Int.not_lt, Int.not_le] at hq; omega) | simp only [Act.put, List.setIfInBounds_toArray, List.set_cons_succ, List.set_cons_zero]))); all_goals (refine Mix.lex_nil ?_)))
            go_ret
            exact ⟨ret_bool (by unfold lightF; rw [HB.out, Bool.and_false, Bool.false_and]), ξ.h.drew⟩
        · have HB : Hid (xs.all lightF1 = false) := all_false_at' HX.out (by unfold lightF1; rw [decide_eq_false h1, Bool.false_and])
          go_wp2_with (first | ((first | refine Mix.wpList_guarded rfl ?_ | refine Mix.wp_still (by kernel_rfl) (by kernel_rfl) ?_); (repeat' (first | (refine Mix.lex_quiet0 rfl rfl rfl ?_; intro K hK; go_big_quiet_op; go_big_quiet_on) | (refine Mix.lex_quietG rfl rfl rfl (by with_reducible rfl) rfl rfl ?_; intro K hK; go_big_quiet_op; go_big_quiet_on) | ((first | refine Mix.lex_skipT rfl rfl rfl (by with_reducible rfl) ?_ | refine Mix.lex_skipF rfl rfl rfl (by with_reducible rfl) ?_ | refine Mix.lex_skipU rfl rfl rfl (by with_reducible rfl) ?_); simp only [Act.put, List.setIfInBounds_toArray, List.set_cons_succ, List.set_cons_zero]) | (refine Mix.lex_part rfl rfl rfl rfl (fun hq => ?_) (fun hq => ?_) <;> (fail_if_success (guard_hyp hq :ₛ true = true)) <;> (fail_if_success (guard_hyp hq :ₛ false = false)) <;> first | (exfalso; cases hq; done) | (exfalso; simp only [decide_eq_true_eq, decide_eq_false_iff_not, beq_iff_eq, beq_eq_false_iff_ne, ne_eq, Int.not_lt, Int.not_le] at hq; omega) | simp only [Act.put, List.setIfInBounds_toArray, List.set_cons_succ, List.set_cons_zero]))); all_goals (refine Mix.lex_nil ?_)))
          go_ret
          exact ⟨ret_bool (by unfold lightF; rw [HB.out, Bool.and_false, Bool.false_and]), ξ.h.drew⟩
      · have HB : Hid (lightF xs = true) := by
          have hT := HT.out
          rw [List.take_of_length_le (by rw [h.1]; omega)] at hT
          unfold Hid lightF
          rw [HN.out, hT, riseB_iff.2 fun i x y hx hy => HR.out i x y (by have := (List.getElem?_eq_some_iff.1 hy).1; rw [h.1] at this; omega) hx hy]
          rfl
        go_wp2_with (first | ((first | refine Mix.wpList_guarded rfl ?_ | refine Mix.wp_still (by kernel_rfl) (by kernel_rfl) ?_); (repeat' (first | (refine Mix.lex_quiet0 rfl rfl rfl ?_; intro K hK; go_big_quiet_op; go_big_quiet_on) | (refine Mix.lex_quietG rfl rfl rfl (by with_reducible rfl) rfl rfl ?_; intro K hK; go_big_quiet_op; go_big_quiet_on) | ((first | refine Mix.lex_skipT rfl rfl rfl (by with_reducible rfl) ?_ | refine Mix.lex_skipF rfl rfl rfl (by with_reducible rfl) ?_ | refine Mix.lex_skipU rfl rfl rfl (by with_reducible rfl) ?_); simp only [Act.put, List.setIfInBounds_toArray, List.set_cons_succ, List.set_cons_zero]) | (refine Mix.lex_part rfl rfl rfl rfl (fun hq => ?_) (fun hq => ?_) <;> (fail_if_success (guard_hyp hq :ₛ true = true)) <;> (fail_if_success (guard_hyp hq :ₛ false = false)) <;> first | (exfalso; cases hq; done) | (exfalso; simp only [decide_eq_true_eq, decide_eq_false_iff_not, beq_iff_eq, beq_eq_false_iff_ne, ne_eq, Int.not_lt, Int.not_le] at hq; omega) | simp only [Act.put, List.setIfInBounds_toArray, List.set_cons_succ, List.set_cons_zero]))); all_goals (refine Mix.lex_nil ?_)))
        go_ret
        exact ⟨ret_bool HB.out.symm, ξ.h⟩
  · have HN : Hid (lightF xs = false) := by
      have : decide (xs.length ≤ 24) = false := by rw [h.1]; simpa using hn
      rw [Hid, lightF, this]; rfl
    go_enter Tryz.func9, Tryz.ntmps9
    go_wp2_with (first | ((first | refine Mix.wpList_guarded rfl ?_ | refine Mix.wp_still (by kernel_rfl) (by kernel_rfl) ?_); (repeat' (first | (refine Mix.lex_quiet0 rfl rfl rfl ?_; intro K hK; go_big_quiet_op; go_big_quiet_on) | (refine Mix.lex_quietG rfl rfl rfl (by with_reducible rfl) rfl rfl ?_; intro K hK; go_big_quiet_op; go_big_quiet_on) | ((first | refine Mix.lex_skipT rfl rfl rfl (by with_reducible rfl) ?_ | refine Mix.lex_skipF rfl rfl rfl (by with_reducible rfl) ?_ | refine Mix.lex_skipU rfl rfl rfl (by with_reducible rfl) ?_); simp only [Act.put, List.setIfInBounds_toArray, List.set_cons_succ, List.set_cons_zero]) | (refine Mix.lex_part rfl rfl rfl rfl (fun hq => ?_) (fun hq => ?_) <;> (fail_if_success (guard_hyp hq :ₛ true = true)) <;> (fail_if_success (guard_hyp hq :ₛ false = false)) <;> first | (exfalso; cases hq; done) | (exfalso; simp only [decide_eq_true_eq, decide_eq_false_iff_not, beq_iff_eq, beq_eq_false_iff_ne, ne_eq, Int.not_lt, Int.not_le] at hq; omega) | simp only [Act.put, List.setIfInBounds_toArray, List.set_cons_succ, List.set_cons_zero]))); all_goals (refine Mix.lex_nil ?_)))
    go_ret
    exact ⟨ret_bool HN.out.symm, Only.refl _ _⟩
theorem lightF_facts {xs : List File} (h : lightF xs = true) : xs.length ≤ 24 ∧ (∀ x ∈ xs, x.1.length ≤ 20 ∧ x.2.length ≤ 60) ∧ Rise fk xs := by
  simp only [lightF, Bool.and_eq_true, decide_eq_true_eq, List.all_eq_true, lightF1] at h
  exact ⟨h.1.1, fun x hx => h.1.2 x hx, rise_of h.2⟩
end Go.Proofs.YtnhaekifcieeoaaGreatDoor

/- How much is needed for a goal at most. Plain: no program. -/
namespace Go.Proofs.YtnhaekifcieeoaaGreatDoor
open Go Go.RowKit
theorem gbd {s : Str} {l : List File} (h : lightF l = true) : GBd (parseF s).1 l := by
  have hf := parseF_fit s
  have hm := parseF_mlen s
  obtain ⟨h1, _, h3⟩ := lightF_facts h
  refine ⟨Nat.le_trans hf.r (by decide), fun r hr => ?_, Nat.le_trans hf.p (by decide), by omega, h3⟩
  obtain ⟨p1, p2, p3, p4⟩ := hf.rt r hr
  have q := hm.r r hr
  exact ⟨p1, p2, p3, p4, fun x hx => by have := q.t x hx; omega, fun x hx => by have := q.n x hx; omega, fun x hx => by have := q.c x hx; omega⟩
theorem flat_len {α β : Type} {f : α → List β} {k : Nat} : ∀ {l : List α}, (∀ x ∈ l, (f x).length ≤ k) → (l.flatMap f).length ≤ k * l.length
  | [], _ => by simp
  | x :: xs, h => by
    have h1 := h x (by simp)
    have h2 := flat_len (l := xs) fun y hy => h y (List.mem_cons_of_mem _ hy)
    simp only [List.flatMap_cons, List.length_append, List.length_cons]
    rw [Nat.mul_add]
    omega
theorem cand_few {s : Str} {l : List File} (h : lightF l = true) (goal : Str) : (candF (parseF s).1 l goal).length < 100 := by
  have hf := parseF_fit s
  obtain ⟨h1, _, _⟩ := lightF_facts h
  have a1 := flat_len (f := fun r : Rul => r.targets) (k := 2) (l := (parseF s).1.rules) fun r hr => (hf.rt r hr).2.1
  have a2 := flat_len (f := fun r : Rul => ndsOf r []) (k := 3) (l := (parseF s).1.rules) fun r hr => by
    show (ndsOf r []).length ≤ 3
    unfold ndsOf
    rw [List.length_map]
    exact (hf.rt r hr).2.2.1
  have a3 := hf.r
  unfold candF
  simp only [List.length_append, List.length_cons, List.length_map]
  omega
theorem cand_len {s : Str} {l : List File} (h : lightF l = true) {goal : Str} (hg : goal.length ≤ 20) : ∀ x ∈ candF (parseF s).1 l goal, x.length ≤ 200 := by
  have hm := parseF_mlen s
  obtain ⟨_, h2, _⟩ := lightF_facts h
  intro x hx
  unfold candF at hx
  simp only [List.mem_append, List.mem_cons, List.mem_map, List.mem_flatMap] at hx
  rcases hx with (((rfl | ⟨y, hy, rfl⟩) | ⟨r, hr, hx⟩)) | ⟨r, hr, hx⟩
  · omega
  · have := (h2 y hy).1; omega
  · have := (hm.r r hr).t x hx; omega
  · unfold ndsOf at hx
    obtain ⟨y, hy, rfl⟩ := List.mem_map.1 hx
    have q1 := (hm.r r hr).n y hy
    have q2 := onceF_len y []
    simp only [List.length_nil] at q2
    omega
end Go.Proofs.YtnhaekifcieeoaaGreatDoor
