/- Put together: Files4, Gxb, Grl, Ton, Rfd, Rvf. -/
import Derived.Test.YtnhaekifcieeoaaGreatDoorPk13
import Derived.Test.YtnhaekifcieeoaaGreatDoorPk04
import Derived.Test.YtnhaekifcieeoaaGreatDoorPk05
import Derived.Test.YtnhaekifcieeoaaGreatDoorPk11
import Derived.Test.YtnhaekifcieeoaaGreatDoorPk07
import Derived.Test.YtnhaekifcieeoaaGreatDoorPk02
import Derived.Test.YtnhaekifcieeoaaGreatDoorPk01
import Derived.Lib.IndexLaws
import Derived.Lib.IndexMore
namespace Go.Proofs.YtnhaekifcieeoaaGreatDoor
open Go Go.RowKit
def lightF1 (f : File) : Bool := decide (f.1.length ≤ 20) && decide (f.2.length ≤ 60)
def lightF (l : List File) : Bool := decide (l.length ≤ 24) && l.all lightF1 && riseB fk l
theorem all_take_succ' {α : Type} {p : α → Bool} {l : List α} {k : Nat} {x : α} (h : (l.take k).all p = true) (hx : l[k]? = some x) (hp : p x = true) : (l.take (k + 1)).all p = true := by
  rw [List.take_add_one, hx]
  simp only [Option.toList, List.all_append, h, List.all_cons, hp, List.all_nil, Bool.and_self]
theorem all_false_at' {α : Type} {p : α → Bool} {l : List α} {k : Nat} {x : α} (hx : l[k]? = some x) (hp : p x = false) : l.all p = false := by
  rw [List.all_eq_false]
  exact ⟨x, List.mem_of_getElem? hx, by rw [hp]; exact Bool.false_ne_true⟩
set_option maxRecDepth 100000 in
set_option maxHeartbeats 1000000 in
theorem LightFiles_c {w : World} {A : Option Addr} {n c : Nat} {xs : List File} (h : SlR fileF w A n xs) (hn0 : n ≤ maxLen) :
    Calls Tryz.prog 9 #[.slice A n c] w fun e w' => e = .returned (.bool (lightF xs)) ∧ Ext w w' := by
  unfold maxLen at hn0
  by_cases hn : n ≤ 24
  · have HN : Hid (decide (xs.length ≤ 24) = true) := by rw [Hid, h.1]; simpa using hn
    go_enter Tryz.func9, Tryz.ntmps9
    go_wp2_with (first | ((first | refine Mix.wpList_guarded rfl ?_ | refine Mix.wp_still (by kernel_rfl) (by kernel_rfl) ?_); (repeat' (first | (refine Mix.lex_quiet0 rfl rfl rfl ?_; intro K hK; go_big_quiet_op; go_big_quiet_on) | (refine Mix.lex_quietG rfl rfl rfl (by with_reducible rfl) rfl rfl ?_; intro K hK; go_big_quiet_op; go_big_quiet_on) | ((first | refine Mix.lex_skipT rfl rfl rfl (by with_reducible rfl) ?_ | refine Mix.lex_skipF rfl rfl rfl (by with_reducible rfl) ?_ | refine Mix.lex_skipU rfl rfl rfl (by with_reducible rfl) ?_); simp only [Act.put, List.setIfInBounds_toArray, List.set_cons_succ, List.set_cons_zero]) | (refine Mix.lex_part rfl rfl rfl rfl (fun hq => ?_) (fun hq => ?_) <;> (fail_if_success (guard_hyp hq :ₛ true = true)) <;> (fail_if_success (guard_hyp hq :ₛ false = false)) <;> first | (exfalso; cases hq; done) | (exfalso; simp only [decide_eq_true_eq, decide_eq_false_iff_not, beq_iff_eq, beq_eq_false_iff_ne, ne_eq, Int.not_lt, Int.not_le] at hq; omega) | simp only [Act.put, List.setIfInBounds_toArray, List.set_cons_succ, List.set_cons_zero]))); all_goals (refine Mix.lex_nil ?_)))
    go_loopw [3] (fun i wr => ∃ k : Nat, k ≤ n ∧ i = .int .i64 k ∧ (xs.take k).all lightF1 = true ∧ (∀ i x y, i + 1 < k → xs[i]? = some x → xs[i + 1]? = some y → fk x < fk y) ∧ ∃ ξ : X w No, wr = ξ.v) (fun i _ => n - (intOf i).toNat)
    case atStart => exact ⟨0, Nat.zero_le _, rfl, rfl, fun i x y hi => by omega, X.here _ _, rfl⟩
    case round =>
      obtain ⟨k, hk, rfl, hT, hR, ξ, rfl⟩ := hrel
      have HT := Lib.hid hT
      have HR := Lib.hid hR
      clear hT hR
      by_cases hlt : k < n
      · obtain ⟨b, o, x, rfl, hx, c0, c1⟩ := files_get h hlt
        have HX := Lib.hid hx
        clear hx
        by_cases h1 : x.1.length ≤ 20
        · by_cases h2 : x.2.length ≤ 60
          · have hp : Hid (lightF1 x = true) := by unfold Hid lightF1; rw [decide_eq_true h1, decide_eq_true h2]; rfl
            have g1 : decide ((20 : Int) < (x.1.length : Int)) = false := by rw [decide_eq_false_iff_not]; omega
            have g2 : decide ((60 : Int) < (x.2.length : Int)) = false := by rw [decide_eq_false_iff_not]; omega
            by_cases h0 : k = 0
            · have hz : decide (0 < k) = false := by rw [decide_eq_false_iff_not]; omega
              have H0 := Lib.hid h0
              clear h0
              go_wp2_with (first | ((first | refine Mix.wpList_guarded rfl ?_ | refine Mix.wp_still (by kernel_rfl) (by kernel_rfl) ?_); (repeat' (first | (refine Mix.lex_quiet0 rfl rfl rfl ?_; intro K hK; go_big_quiet_op; go_big_quiet_on) | (refine Mix.lex_quietG rfl rfl rfl (by with_reducible rfl) rfl rfl ?_; intro K hK; go_big_quiet_op; go_big_quiet_on) | ((first | refine Mix.lex_skipT rfl rfl rfl (by with_reducible rfl) ?_ | refine Mix.lex_skipF rfl rfl rfl (by with_reducible rfl) ?_ | refine Mix.lex_skipU rfl rfl rfl (by with_reducible rfl) ?_); simp only [Act.put, List.setIfInBounds_toArray, List.set_cons_succ, List.set_cons_zero]) | (refine Mix.lex_part rfl rfl rfl rfl (fun hq => ?_) (fun hq => ?_) <;> (fail_if_success (guard_hyp hq :ₛ true = true)) <;> (fail_if_success (guard_hyp hq :ₛ false = false)) <;> first | (exfalso; cases hq; done) | (exfalso; simp only [decide_eq_true_eq, decide_eq_false_iff_not, beq_iff_eq, beq_eq_false_iff_ne, ne_eq, Int.not_lt, Int.not_le] at hq; omega) | simp only [Act.put, List.setIfInBounds_toArray, List.set_cons_succ, List.set_cons_zero]))); all_goals (refine Mix.lex_nil ?_)))
              go_roundw
              case rel => exact ⟨k + 1, by omega, by go_num, all_take_succ' HT.out HX.out hp.out, fun i x y hi => (by have := H0.out; omega), ⟨_, ξ.h.drew⟩, rfl⟩
              case measure => simp [intOf]; omega
            · obtain ⟨b', o', y, hA, hy, e0, _⟩ := files_get h (show k - 1 < n by omega)
              injection hA with hA
              injection hA with hA1 hA2
              subst hA1; subst hA2
              obtain ⟨m, rfl⟩ : ∃ m, k = m + 1 := ⟨k - 1, by omega⟩
              have hz : decide (0 < m + 1) = true := by rw [decide_eq_true_iff]; omega
              rw [Nat.add_sub_cancel] at e0 hy
              have HY := Lib.hid hy
              clear hy h0
              cases hq : leB x.1 y.1 with
              | true =>
                have HB : Hid (riseB fk xs = false) := by
                  cases hb : riseB fk xs with
                  | false => rfl
                  | true => exact absurd (riseB_iff.1 hb m y x HY.out HX.out) (sle_iff.1 (leB_true hq))
                go_wp2_with (first | ((first | refine Mix.wpList_guarded rfl ?_ | refine Mix.wp_still (by kernel_rfl) (by kernel_rfl) ?_); (repeat' (first | (refine Mix.lex_quiet0 rfl rfl rfl ?_; intro K hK; go_big_quiet_op; go_big_quiet_on) | (refine Mix.lex_quietG rfl rfl rfl (by with_reducible rfl) rfl rfl ?_; intro K hK; go_big_quiet_op; go_big_quiet_on) | ((first | refine Mix.lex_skipT rfl rfl rfl (by with_reducible rfl) ?_ | refine Mix.lex_skipF rfl rfl rfl (by with_reducible rfl) ?_ | refine Mix.lex_skipU rfl rfl rfl (by with_reducible rfl) ?_); simp only [Act.put, List.setIfInBounds_toArray, List.set_cons_succ, List.set_cons_zero]) | (refine Mix.lex_part rfl rfl rfl rfl (fun hq => ?_) (fun hq => ?_) <;> (fail_if_success (guard_hyp hq :ₛ true = true)) <;> (fail_if_success (guard_hyp hq :ₛ false = false)) <;> first | (exfalso; cases hq; done) | (exfalso; simp only [decide_eq_true_eq, decide_eq_false_iff_not, beq_iff_eq, beq_eq_false_iff_ne, ne_eq, Int.not_lt, Int.not_le] at hq; omega) | simp only [Act.put, List.setIfInBounds_toArray, List.set_cons_succ, List.set_cons_zero]))); all_goals (refine Mix.lex_nil ?_)))
                go_ret
                exact ⟨ret_bool (by unfold lightF; rw [HB.out, Bool.and_false]), ξ.h.drew⟩
              | false =>
                have hyx : Hid (fk y < fk x) := leB_false hq
                go_wp2_with (first | ((first | refine Mix.wpList_guarded rfl ?_ | refine Mix.wp_still (by kernel_rfl) (by kernel_rfl) ?_); (repeat' (first | (refine Mix.lex_quiet0 rfl rfl rfl ?_; intro K hK; go_big_quiet_op; go_big_quiet_on) | (refine Mix.lex_quietG rfl rfl rfl (by with_reducible rfl) rfl rfl ?_; intro K hK; go_big_quiet_op; go_big_quiet_on) | ((first | refine Mix.lex_skipT rfl rfl rfl (by with_reducible rfl) ?_ | refine Mix.lex_skipF rfl rfl rfl (by with_reducible rfl) ?_ | refine Mix.lex_skipU rfl rfl rfl (by with_reducible rfl) ?_); simp only [Act.put, List.setIfInBounds_toArray, List.set_cons_succ, List.set_cons_zero]) | (refine Mix.lex_part rfl rfl rfl rfl (fun hq => ?_) (fun hq => ?_) <;> (fail_if_success (guard_hyp hq :ₛ true = true)) <;> (fail_if_success (guard_hyp hq :ₛ false = false)) <;> first | (exfalso; cases hq; done) | (exfalso; simp only [decide_eq_true_eq, decide_eq_false_iff_not, beq_iff_eq, beq_eq_false_iff_ne, ne_eq, Int.not_lt, Int.not_le] at hq; omega) | simp only [Act.put, List.setIfInBounds_toArray, List.set_cons_succ, List.set_cons_zero]))); all_goals (refine Mix.lex_nil ?_)))
                go_roundw
                case rel =>
                  refine ⟨m + 2, by omega, by go_num, all_take_succ' HT.out HX.out hp.out, fun i x' y' hi hx' hy' => ?_, ⟨_, ξ.h.drew⟩, rfl⟩
                  by_cases e : i = m
                  · subst e
                    rw [HY.out] at hx'
                    rw [HX.out] at hy'
                    injection hx' with hx'
                    injection hy' with hy'
                    rw [← hx', ← hy']
                    exact hyx.out
                  · exact HR.out i x' y' (by omega) hx' hy'
                case measure => simp [intOf]; omega
          · have HB : Hid (xs.all lightF1 = false) := all_false_at' HX.out (by unfold lightF1; rw [decide_eq_false h2, Bool.and_false])
            go_wp2_with (first | ((first | refine Mix.wpList_guarded rfl ?_ | refine Mix.wp_still (by kernel_rfl) (by kernel_rfl) ?_); (repeat' (first | (refine Mix.lex_quiet0 rfl rfl rfl ?_; intro K hK; go_big_quiet_op; go_big_quiet_on) | (refine Mix.lex_quietG rfl rfl rfl (by with_reducible rfl) rfl rfl ?_; intro K hK; go_big_quiet_op; go_big_quiet_on) | ((first | refine Mix.lex_skipT rfl rfl rfl (by with_reducible rfl) ?_ | refine Mix.lex_skipF rfl rfl rfl (by with_reducible rfl) ?_ | refine Mix.lex_skipU rfl rfl rfl (by with_reducible rfl) ?_); simp only [Act.put, List.setIfInBounds_toArray, List.set_cons_succ, List.set_cons_zero]) | (refine Mix.lex_part rfl rfl rfl rfl (fun hq => ?_) (fun hq => ?_) <;> (fail_if_success (guard_hyp hq :ₛ true = true)) <;> (fail_if_success (guard_hyp hq :ₛ false = false)) <;> first | (exfalso; cases hq; done) | (exfalso; simp only [decide_eq_true_eq, decide_eq_false_iff_not, beq_iff_eq, beq_eq_false_iff_ne, ne_eq, Int.not_lt, Int.not_le] at hq; omega) | simp only [Act.put, List.setIfInBounds_toArray, List.set_cons_succ, List.set_cons_zero]))); all_goals (refine Mix.lex_nil ?_)))
            go_ret
            exact ⟨ret_bool (by unfold lightF; rw [HB.out, Bool.and_false, Bool.false_and]), ξ.h.drew⟩
        · have HB : Hid (xs.all lightF1 = false) := all_false_at' HX.out (by unfold lightF1; rw [decide_eq_false h1, Bool.false_and])
          go_wp2_with (first | ((first | refine Mix.wpList_guarded rfl ?_ | refine Mix.wp_still (by kernel_rfl) (by kernel_rfl) ?_); (repeat' (first | (refine Mix.lex_quiet0 rfl rfl rfl ?_; intro K hK; go_big_quiet_op; go_big_quiet_on) | (refine Mix.lex_quietG rfl rfl rfl (by with_reducible rfl) rfl rfl ?_; intro K hK; go_big_quiet_op; go_big_quiet_on) | ((first | refine Mix.lex_skipT rfl rfl rfl (by with_reducible rfl) ?_ | refine Mix.lex_skipF rfl rfl rfl (by with_reducible rfl) ?_ | refine Mix.lex_skipU rfl rfl rfl (by with_reducible rfl) ?_); simp only [Act.put, List.setIfInBounds_toArray, List.set_cons_succ, List.set_cons_zero]) | (refine Mix.lex_part rfl rfl rfl rfl (fun hq => ?_) (fun hq => ?_) <;> (fail_if_success (guard_hyp hq :ₛ true = true)) <;> (fail_if_success (guard_hyp hq :ₛ false = false)) <;> first | (exfalso; cases hq; done) | (exfalso; simp only [decide_eq_true_eq, decide_eq_false_iff_not, beq_iff_eq, beq_eq_false_iff_ne, ne_eq, Int.not_lt, Int.not_le] at hq; omega) | simp only [Act.put, List.setIfInBounds_toArray, List.set_cons_succ, List.set_cons_zero]))); all_goals (refine Mix.lex_nil ?_)))
          go_ret
          exact ⟨ret_bool (by unfold lightF; rw [HB.out, Bool.and_false, Bool.false_and]), ξ.h.drew⟩
      · have HB : Hid (lightF xs = true) := by
          have hT := HT.out
          rw [List.take_of_length_le (by rw [h.1]; omega)] at hT
          unfold Hid lightF
          rw [HN.out, hT, riseB_iff.2 fun i x y hx hy => HR.out i x y (by have := (List.getElem?_eq_some_iff.1 hy).1; rw [h.1] at this; omega) hx hy]
          rfl
        go_wp2_with (first | ((first | refine Mix.wpList_guarded rfl ?_ | refine Mix.wp_still (by kernel_rfl) (by kernel_rfl) ?_); (repeat' (first | (refine Mix.lex_quiet0 rfl rfl rfl ?_; intro K hK; go_big_quiet_op; go_big_quiet_on) | (refine Mix.lex_quietG rfl rfl rfl (by with_reducible rfl) rfl rfl ?_; intro K hK; go_big_quiet_op; go_big_quiet_on) | ((first | refine Mix.lex_skipT rfl rfl rfl (by with_reducible rfl) ?_ | refine Mix.lex_skipF rfl rfl rfl (by with_reducible rfl) ?_ | refine Mix.lex_skipU rfl rfl rfl (by with_reducible rfl) ?_); simp only [Act.put, List.setIfInBounds_toArray, List.set_cons_succ, List.set_cons_zero]) | (refine Mix.lex_part rfl rfl rfl rfl (fun hq => ?_) (fun hq => ?_) <;> (fail_if_success (guard_hyp hq :ₛ true = true)) <;> (fail_if_success (guard_hyp hq :ₛ false = false)) <;> first | (exfalso; cases hq; done) | (exfalso; simp only [decide_eq_true_eq, decide_eq_false_iff_not, beq_iff_eq, beq_eq_false_iff_ne, ne_eq, Int.not_lt, Int.not_le] at hq; omega) | simp only [Act.put, List.setIfInBounds_toArray, List.set_cons_succ, List.set_cons_zero]))); all_goals (refine Mix.lex_nil ?_)))
        go_ret
        exact ⟨ret_bool HB.out.symm, ξ.h⟩
  · have HN : Hid (lightF xs = false) := by
      have : decide (xs.length ≤ 24) = false := by rw [h.1]; simpa using hn
      rw [Hid, lightF, this]; rfl
    go_enter Tryz.func9, Tryz.ntmps9
    go_wp2_with (first | ((first | refine Mix.wpList_guarded rfl ?_ | refine Mix.wp_still (by kernel_rfl) (by kernel_rfl) ?_); (repeat' (first | (refine Mix.lex_quiet0 rfl rfl rfl ?_; intro K hK; go_big_quiet_op; go_big_quiet_on) | (refine Mix.lex_quietG rfl rfl rfl (by with_reducible rfl) rfl rfl ?_; intro K hK; go_big_quiet_op; go_big_quiet_on) | ((first | refine Mix.lex_skipT rfl rfl rfl (by with_reducible rfl) ?_ | refine Mix.lex_skipF rfl rfl rfl (by with_reducible rfl) ?_ | refine Mix.lex_skipU rfl rfl rfl (by with_reducible rfl) ?_); simp only [Act.put, List.setIfInBounds_toArray, List.set_cons_succ, List.set_cons_zero]) | (refine Mix.lex_part rfl rfl rfl rfl (fun hq => ?_) (fun hq => ?_) <;> (fail_if_success (guard_hyp hq :ₛ true = true)) <;> (fail_if_success (guard_hyp hq :ₛ false = false)) <;> first | (exfalso; cases hq; done) | (exfalso; simp only [decide_eq_true_eq, decide_eq_false_iff_not, beq_iff_eq, beq_eq_false_iff_ne, ne_eq, Int.not_lt, Int.not_le] at hq; omega) | simp only [Act.put, List.setIfInBounds_toArray, List.set_cons_succ, List.set_cons_zero]))); all_goals (refine Mix.lex_nil ?_)))
    go_ret
    exact ⟨ret_bool HN.out.symm, Only.refl _ _⟩
theorem lightF_facts {xs : List File} (h : lightF xs = true) : xs.length ≤ 24 ∧ (∀ x ∈ xs, x.1.length ≤ 20 ∧ x.2.length ≤ 60) ∧ Rise fk xs := by
  simp only [lightF, Bool.and_eq_true, decide_eq_true_eq, List.all_eq_true, lightF1] at h
  exact ⟨h.1.1, fun x hx => h.1.2 x hx, rise_of h.2⟩
theorem gbd {s : Str} {l : List File} (h : lightF l = true) : GBd (parseF s).1 l := by
  have hf := parseF_fit s
  have hm := parseF_mlen s
  obtain ⟨h1, _, h3⟩ := lightF_facts h
  refine ⟨Nat.le_trans hf.r (by decide), fun r hr => ?_, Nat.le_trans hf.p (by decide), by omega, h3⟩
  obtain ⟨p1, p2, p3, p4⟩ := hf.rt r hr
  have q := hm.r r hr
  exact ⟨p1, p2, p3, p4, fun x hx => by have := q.t x hx; omega, fun x hx => by have := q.n x hx; omega, fun x hx => by have := q.c x hx; omega⟩
theorem flat_len {α β : Type} {f : α → List β} {k : Nat} : ∀ {l : List α}, (∀ x ∈ l, (f x).length ≤ k) → (l.flatMap f).length ≤ k * l.length
  | [], _ => by simp
  | x :: xs, h => by
    have h1 := h x (by simp)
    have h2 := flat_len (l := xs) fun y hy => h y (List.mem_cons_of_mem _ hy)
    simp only [List.flatMap_cons, List.length_append, List.length_cons]
    rw [Nat.mul_add]
    omega
theorem cand_few {s : Str} {l : List File} (h : lightF l = true) (goal : Str) : (candF (parseF s).1 l goal).length < 100 := by
  have hf := parseF_fit s
  obtain ⟨h1, _, _⟩ := lightF_facts h
  have a1 := flat_len (f := fun r : Rul => r.targets) (k := 2) (l := (parseF s).1.rules) fun r hr => (hf.rt r hr).2.1
  have a2 := flat_len (f := fun r : Rul => ndsOf r []) (k := 3) (l := (parseF s).1.rules) fun r hr => by
    show (ndsOf r []).length ≤ 3
    unfold ndsOf
    rw [List.length_map]
    exact (hf.rt r hr).2.2.1
  have a3 := hf.r
  unfold candF
  simp only [List.length_append, List.length_cons, List.length_map]
  omega
theorem cand_len {s : Str} {l : List File} (h : lightF l = true) {goal : Str} (hg : goal.length ≤ 20) : ∀ x ∈ candF (parseF s).1 l goal, x.length ≤ 200 := by
  have hm := parseF_mlen s
  obtain ⟨_, h2, _⟩ := lightF_facts h
  intro x hx
  unfold candF at hx
  simp only [List.mem_append, List.mem_cons, List.mem_map, List.mem_flatMap] at hx
  rcases hx with (((rfl | ⟨y, hy, rfl⟩) | ⟨r, hr, hx⟩)) | ⟨r, hr, hx⟩
  · omega
  · have := (h2 y hy).1; omega
  · have := (hm.r r hr).t x hx; omega
  · unfold ndsOf at hx
    obtain ⟨y, hy, rfl⟩ := List.mem_map.1 hx
    have q1 := (hm.r r hr).n y hy
    have q2 := onceF_len y []
    simp only [List.length_nil] at q2
    omega
structure GOk (m : Mk) (l : List File) (out : List Grp) : Prop where
  rl : ∀ g ∈ out, ∃ n, ruleF m l n = some g
  ds : out.Pairwise fun a b => ∀ t ∈ a.targets, t ∉ b.targets
  tp : ∀ (i : Nat) g, out[i]? = some g → ∀ n ∈ g.needs, (∃ k q, k < i ∧ out[k]? = some q ∧ n ∈ q.targets) ∨ (ruleF m l n = none ∧ isF l n = true)
def HasN (m : Mk) (l : List File) (out : List Grp) (n : Str) : Prop := (∃ g ∈ out, n ∈ g.targets) ∨ (ruleF m l n = none ∧ isF l n = true)
section
variable {m : Mk} {l : List File}
theorem GOk.add {out : List Grp} {g : Grp} {n : Str} (h : GOk m l out) (hr : ruleF m l n = some g) (hd : ∀ q ∈ out, ∀ t ∈ q.targets, t ∉ g.targets) (hn : ∀ k ∈ g.needs, HasN m l out k) : GOk m l (out ++ [g]) := by
  refine ⟨fun q hq => ?_, ?_, fun i q hi k hk => ?_⟩
  · rcases List.mem_append.1 hq with hq | hq
    · exact h.rl q hq
    · obtain rfl : q = g := by simpa using hq
      exact ⟨n, hr⟩
  · refine List.pairwise_append.2 ⟨h.ds, List.pairwise_singleton _ _, fun a ha b hb => ?_⟩
    obtain rfl : b = g := by simpa using hb
    exact hd a ha
  · rcases Nat.lt_or_ge i out.length with hlt | hge
    · rw [List.getElem?_append_left hlt] at hi
      rcases h.tp i q hi k hk with ⟨j, p, h1, h2, h3⟩ | h1
      · exact .inl ⟨j, p, h1, by rw [List.getElem?_append_left (by omega)]; exact h2, h3⟩
      · exact .inr h1
    · rw [List.getElem?_append_right hge] at hi
      have hz : i - out.length = 0 := by
        rcases Nat.eq_zero_or_pos (i - out.length) with h0 | h0
        · exact h0
        · rw [List.getElem?_eq_none (by simp only [List.length_singleton]; omega)] at hi; cases hi
      rw [hz] at hi
      obtain rfl : g = q := by simpa using hi
      rcases hn k hk with ⟨p, hp, hk2⟩ | h1
      · obtain ⟨j, hj, e⟩ := List.getElem_of_mem hp
        exact .inl ⟨j, p, by omega, by rw [List.getElem?_append_left hj, List.getElem?_eq_getElem hj, e], hk2⟩
      · exact .inr h1
theorem HasN.more {out new : List Grp} {n : Str} (h : HasN m l out n) : HasN m l (out ++ new) n := by
  rcases h with ⟨g, hg, hn⟩ | h
  · exact .inl ⟨g, List.mem_append_left _ hg, hn⟩
  · exact .inr h
theorem visitF_len : ∀ (f : Nat) (way : List Str) (out : List Grp) (name : Str), out.length ≤ 10 → (visitF m l f way out name).1.length ≤ 10
  | 0, _, _, _, h => h
  | f + 1, way, out, name, h => by
    have hn : ∀ (ns : List Str) (o : List Grp) (w : List Str), o.length ≤ 10 → (needsF (visitF m l f w) o ns).1.length ≤ 10 := by
      intro ns
      induction ns with
      | nil => intro o w ho; exact ho
      | cons n ns ih =>
        intro o w ho
        unfold needsF
        split
        · exact visitF_len f w o n ho
        · exact ih _ w (visitF_len f w o n ho)
    unfold visitF
    split
    · exact h
    · split
      · exact h
      · split
        · split <;> exact h
        · rename_i g _
          have := hn g.needs out (way ++ g.targets) h
          split
          · exact this
          · split
            · exact this
            · simp only [List.length_append, List.length_cons, List.length_nil]; omega
end
abbrev madeT : Str := [98, 32, 58, 32, 97, 10, 9, 99, 111, 112, 121, 32, 97, 32, 98, 10]
abbrev madeC : Str := [99, 111, 112, 121, 32, 97, 32, 98]
abbrev madeM : Mk := ⟨[], [⟨[[98]], [[97]], [madeC]⟩], []⟩
abbrev madeG : Grp := ⟨[[98]], [[97]], [madeC], false⟩
theorem made_parse : parseF madeT = (madeM, 0) := by decide +kernel
abbrev madeL : List File := [([97], [])]
theorem made_grps : groupsF madeM madeL [98] = ([madeG], 0) := by decide +kernel
theorem made_bd : GBd madeM madeL ∧ (nameB [98] = true → ∀ x ∈ candF madeM madeL [98], x.length ≤ 200) ∧ (candF madeM madeL [98]).length < 100 := by
  refine ⟨⟨by decide, by decide, by decide, by decide, ?_⟩, ?_, ?_⟩
  · exact List.pairwise_singleton _ _
  · intro _ x hx
    simp [candF, ndsOf] at hx
    rcases hx with rfl | rfl | rfl | rfl <;> decide
  · simp [candF, ndsOf]
def fndI (s p : Str) (f : Nat) : Int := if Lib.index (s.drop f) p = -1 then -1 else Lib.index (s.drop f) p + f
theorem pre_take (p l : Str) : p.isPrefixOf l = decide (l.take p.length = p) := by
  rw [Bool.eq_iff_iff, List.isPrefixOf_iff_prefix, decide_eq_true_iff]
  constructor
  · rintro ⟨t, rfl⟩
    simp
  · intro h
    rw [← h]
    exact List.take_prefix _ _
theorem part_at (s : Str) (f k n : Nat) : (s.take (f + k + n)).drop (f + k) = ((s.drop f).drop k).take n := by
  rw [List.drop_take, List.drop_drop, show f + k + n - (f + k) = n by omega]
set_option maxRecDepth 100000 in
theorem rfind1_c (s : Str) (hs : s.length ≤ 1000000) (a : UInt8) (f : Nat) (hf : f ≤ s.length) (w : World) :
    Calls Tryz.prog 57 #[S s, S [a], .int .i64 f] w fun e w' => e = .returned (.int .i64 (fndI s [a] f)) ∧ Ext w w' := by
  have hd : (s.drop f).length = s.length - f := List.length_drop
  go_enter Tryz.func57, Tryz.ntmps57
  go_wp2_with fail
  go_loopw [7] (fun i wr => ∃ k : Nat, f + k ≤ s.length ∧ i = .int .i64 ((f + k : Nat) : Int) ∧ Lib.NoOcc (s.drop f) [a] k ∧ ∃ ξ : X w No, wr = ξ.v) (fun i _ => s.length - (intOf i).toNat)
  case atStart => exact ⟨0, by omega, by simp, fun j hj => absurd hj (Nat.not_lt_zero _), X.here _ _, rfl⟩
  case round =>
    obtain ⟨k, hk, rfl, hT, ξ, rfl⟩ := hrel
    have HT := Lib.hid hT
    clear hT
    obtain ⟨i, hi⟩ : ∃ i, i = f + k := ⟨_, rfl⟩
    have HI := Lib.hid hi
    by_cases hlt : i + 1 ≤ s.length
    · have g1 : decide ((i : Int) + 1 ≤ (s.length : Int)) = true := by rw [decide_eq_true_iff]; omega
      have e0 : Lib.occAt (s.drop f) [a] k = decide ((s.take (i + 1)).drop i = [a]) := by
        unfold Lib.occAt
        rw [pre_take, hi]
        show decide (List.take 1 _ = _) = _
        rw [part_at]
      have HO := Lib.hid e0
      obtain ⟨q, hq⟩ : ∃ q, (s.take (i + 1)).drop i = q := ⟨_, rfl⟩
      rw [hq] at HO
      rw [← hi] at hk ⊢
      obtain ⟨bb, hb⟩ : ∃ bb, (q == [a]) = bb := ⟨_, rfl⟩
      have HB := Lib.hid hb
      clear hi e0
      cases bb with
      | true =>
        have HX : Hid (fndI s [a] f = (i : Int)) := by
          have hqp : q = [a] := by simpa using HB.out
          have h1 := Lib.index_hit HT.out (by have := HI.out; omega) (by rw [HO.out, hqp]; simp)
          rw [Hid, fndI, h1, if_neg (by omega)]
          have := HI.out
          omega
        go_wp2_with fail
        go_ret
        exact ⟨by rw [HX.out]; rfl, ξ.h⟩
      | false =>
        have HX : Hid (Lib.NoOcc (s.drop f) [a] (k + 1)) := by
          have hqp : q ≠ [a] := by simpa using HB.out
          intro j hj
          rcases Nat.lt_or_ge j k with h | h
          · exact HT.out j h
          · obtain rfl : j = k := by omega
            rw [HO.out, decide_eq_false hqp]
        have hfk : f + k + 1 ≤ s.length := by have := HI.out; omega
        go_wp2_with fail
        go_roundw
        case rel => exact ⟨k + 1, hfk, by rw [HI.out]; exact congrArg _ (by omega), HX.out, ξ, rfl⟩
        case measure => simp [intOf]; omega
    · have g1 : decide ((i : Int) + 1 ≤ (s.length : Int)) = false := by rw [decide_eq_false_iff_not]; omega
      have HX : Hid (fndI s [a] f = -1) := by
        have h1 := Lib.index_past (sub := [a]) (by simp) HT.out (by rw [hd, show ([a] : Str).length = 1 from rfl]; omega)
        rw [Hid, fndI, h1]
        rfl
      rw [← hi] at hk ⊢
      clear hi
      go_wp2_with fail
      go_ret
      exact ⟨by rw [HX.out]; rfl, ξ.h⟩
set_option maxRecDepth 100000 in
theorem rfind2_c (s : Str) (hs : s.length ≤ 1000000) (a b : UInt8) (f : Nat) (hf : f ≤ s.length) (w : World) :
    Calls Tryz.prog 57 #[S s, S [a, b], .int .i64 f] w fun e w' => e = .returned (.int .i64 (fndI s [a, b] f)) ∧ Ext w w' := by
  have hd : (s.drop f).length = s.length - f := List.length_drop
  go_enter Tryz.func57, Tryz.ntmps57
  go_wp2_with fail
  go_loopw [7] (fun i wr => ∃ k : Nat, f + k ≤ s.length ∧ i = .int .i64 ((f + k : Nat) : Int) ∧ Lib.NoOcc (s.drop f) [a, b] k ∧ ∃ ξ : X w No, wr = ξ.v) (fun i _ => s.length - (intOf i).toNat)
  case atStart => exact ⟨0, by omega, by simp, fun j hj => absurd hj (Nat.not_lt_zero _), X.here _ _, rfl⟩
  case round =>
    obtain ⟨k, hk, rfl, hT, ξ, rfl⟩ := hrel
    have HT := Lib.hid hT
    clear hT
    obtain ⟨i, hi⟩ : ∃ i, i = f + k := ⟨_, rfl⟩
    have HI := Lib.hid hi
    by_cases hlt : i + 2 ≤ s.length
    · have g1 : decide ((i : Int) + 2 ≤ (s.length : Int)) = true := by rw [decide_eq_true_iff]; omega
      have e0 : Lib.occAt (s.drop f) [a, b] k = decide ((s.take (i + 2)).drop i = [a, b]) := by
        unfold Lib.occAt
        rw [pre_take, hi]
        show decide (List.take 2 _ = _) = _
        rw [part_at]
      have HO := Lib.hid e0
      obtain ⟨q, hq⟩ : ∃ q, (s.take (i + 2)).drop i = q := ⟨_, rfl⟩
      rw [hq] at HO
      rw [← hi] at hk ⊢
      obtain ⟨bb, hb⟩ : ∃ bb, (q == [a, b]) = bb := ⟨_, rfl⟩
      have HB := Lib.hid hb
      clear hi e0
      cases bb with
      | true =>
        have HX : Hid (fndI s [a, b] f = (i : Int)) := by
          have hqp : q = [a, b] := by simpa using HB.out
          have h1 := Lib.index_hit HT.out (by have := HI.out; omega) (by rw [HO.out, hqp]; simp)
          rw [Hid, fndI, h1, if_neg (by omega)]
          have := HI.out
          omega
        go_wp2_with fail
        go_ret
        exact ⟨by rw [HX.out]; rfl, ξ.h⟩
      | false =>
        have HX : Hid (Lib.NoOcc (s.drop f) [a, b] (k + 1)) := by
          have hqp : q ≠ [a, b] := by simpa using HB.out
          intro j hj
          rcases Nat.lt_or_ge j k with h | h
          · exact HT.out j h
          · obtain rfl : j = k := by omega
            rw [HO.out, decide_eq_false hqp]
        have hfk : f + k + 1 ≤ s.length := by have := HI.out; omega
        go_wp2_with fail
        go_roundw
        case rel => exact ⟨k + 1, hfk, by rw [HI.out]; exact congrArg _ (by omega), HX.out, ξ, rfl⟩
        case measure => simp [intOf]; omega
    · have g1 : decide ((i : Int) + 2 ≤ (s.length : Int)) = false := by rw [decide_eq_false_iff_not]; omega
      have HX : Hid (fndI s [a, b] f = -1) := by
        have h1 := Lib.index_past (sub := [a, b]) (by simp) HT.out (by rw [hd, show ([a, b] : Str).length = 2 from rfl]; omega)
        rw [Hid, fndI, h1]
        rfl
      rw [← hi] at hk ⊢
      clear hi
      go_wp2_with fail
      go_ret
      exact ⟨by rw [HX.out]; rfl, ξ.h⟩
set_option maxRecDepth 100000 in
theorem rfind3_c (s : Str) (hs : s.length ≤ 1000000) (a b c : UInt8) (f : Nat) (hf : f ≤ s.length) (w : World) :
    Calls Tryz.prog 57 #[S s, S [a, b, c], .int .i64 f] w fun e w' => e = .returned (.int .i64 (fndI s [a, b, c] f)) ∧ Ext w w' := by
  have hd : (s.drop f).length = s.length - f := List.length_drop
  go_enter Tryz.func57, Tryz.ntmps57
  go_wp2_with fail
  go_loopw [7] (fun i wr => ∃ k : Nat, f + k ≤ s.length ∧ i = .int .i64 ((f + k : Nat) : Int) ∧ Lib.NoOcc (s.drop f) [a, b, c] k ∧ ∃ ξ : X w No, wr = ξ.v) (fun i _ => s.length - (intOf i).toNat)
  case atStart => exact ⟨0, by omega, by simp, fun j hj => absurd hj (Nat.not_lt_zero _), X.here _ _, rfl⟩
  case round =>
    obtain ⟨k, hk, rfl, hT, ξ, rfl⟩ := hrel
    have HT := Lib.hid hT
    clear hT
    obtain ⟨i, hi⟩ : ∃ i, i = f + k := ⟨_, rfl⟩
    have HI := Lib.hid hi
    by_cases hlt : i + 3 ≤ s.length
    · have g1 : decide ((i : Int) + 3 ≤ (s.length : Int)) = true := by rw [decide_eq_true_iff]; omega
      have e0 : Lib.occAt (s.drop f) [a, b, c] k = decide ((s.take (i + 3)).drop i = [a, b, c]) := by
        unfold Lib.occAt
        rw [pre_take, hi]
        show decide (List.take 3 _ = _) = _
        rw [part_at]
      have HO := Lib.hid e0
      obtain ⟨q, hq⟩ : ∃ q, (s.take (i + 3)).drop i = q := ⟨_, rfl⟩
      rw [hq] at HO
      rw [← hi] at hk ⊢
      obtain ⟨bb, hb⟩ : ∃ bb, (q == [a, b, c]) = bb := ⟨_, rfl⟩
      have HB := Lib.hid hb
      clear hi e0
      cases bb with
      | true =>
        have HX : Hid (fndI s [a, b, c] f = (i : Int)) := by
          have hqp : q = [a, b, c] := by simpa using HB.out
          have h1 := Lib.index_hit HT.out (by have := HI.out; omega) (by rw [HO.out, hqp]; simp)
          rw [Hid, fndI, h1, if_neg (by omega)]
          have := HI.out
          omega
        go_wp2_with fail
        go_ret
        exact ⟨by rw [HX.out]; rfl, ξ.h⟩
      | false =>
        have HX : Hid (Lib.NoOcc (s.drop f) [a, b, c] (k + 1)) := by
          have hqp : q ≠ [a, b, c] := by simpa using HB.out
          intro j hj
          rcases Nat.lt_or_ge j k with h | h
          · exact HT.out j h
          · obtain rfl : j = k := by omega
            rw [HO.out, decide_eq_false hqp]
        have hfk : f + k + 1 ≤ s.length := by have := HI.out; omega
        go_wp2_with fail
        go_roundw
        case rel => exact ⟨k + 1, hfk, by rw [HI.out]; exact congrArg _ (by omega), HX.out, ξ, rfl⟩
        case measure => simp [intOf]; omega
    · have g1 : decide ((i : Int) + 3 ≤ (s.length : Int)) = false := by rw [decide_eq_false_iff_not]; omega
      have HX : Hid (fndI s [a, b, c] f = -1) := by
        have h1 := Lib.index_past (sub := [a, b, c]) (by simp) HT.out (by rw [hd, show ([a, b, c] : Str).length = 3 from rfl]; omega)
        rw [Hid, fndI, h1]
        rfl
      rw [← hi] at hk ⊢
      clear hi
      go_wp2_with fail
      go_ret
      exact ⟨by rw [HX.out]; rfl, ξ.h⟩
theorem fndI_cut (s p : Str) : (Lib.cut s p = (s, [], false) ∧ fndI s p 0 = -1) ∨ ∃ i : Nat, fndI s p 0 = (i : Int) ∧ i + p.length ≤ s.length ∧ Lib.cut s p = (s.take i, s.drop (i + p.length), true) := by
  have hg := Lib.index_ge s p
  unfold fndI Lib.cut
  rw [List.drop_zero]
  by_cases h : Lib.index s p = -1
  · left
    rw [if_neg (by omega), if_pos h]
    exact ⟨rfl, rfl⟩
  · right
    obtain ⟨i, hi⟩ : ∃ i : Nat, Lib.index s p = i := ⟨(Lib.index s p).toNat, by omega⟩
    have := Lib.index_room s p (by omega)
    refine ⟨i, ?_, by omega, ?_⟩
    · rw [if_neg h, hi]
      simp
    · rw [if_pos (by omega), hi]
      rfl
theorem fndI_from (s p : Str) (f : Nat) : (Lib.cut (s.drop f) p = (s.drop f, [], false) ∧ fndI s p f = -1) ∨ ∃ i : Nat, fndI s p f = ((f + i : Nat) : Int) ∧ i + p.length ≤ (s.drop f).length ∧ Lib.cut (s.drop f) p = ((s.drop f).take i, (s.drop f).drop (i + p.length), true) := by
  have e : fndI s p f = if fndI (s.drop f) p 0 = -1 then -1 else fndI (s.drop f) p 0 + f := by
    unfold fndI
    rw [List.drop_zero]
    split
    · rfl
    · rename_i h
      rw [if_neg (by simpa using h)]
      simp
  rcases fndI_cut (s.drop f) p with ⟨h1, h2⟩ | ⟨i, h1, h2, h3⟩
  · left
    rw [e, h2]
    exact ⟨h1, rfl⟩
  · right
    refine ⟨i, ?_, h2, h3⟩
    rw [e, h1, if_neg (by omega)]
    omega
theorem RVar_c (s : Str) (hs : s.length ≤ 1000000) (w : World) :
    Calls Tryz.prog 58 #[S s] w fun e w' => e = .returned (.bool (varB s)) ∧ Ext w w' := by
  by_cases h1 : s.length < 1
  · have HB : Hid (varB s = false) := by
      have : s = [] := List.eq_nil_of_length_eq_zero (by omega)
      rw [this]; rfl
    have g1 : decide ((s.length : Int) < 1) = true := by rw [decide_eq_true_iff]; omega
    go_enter Tryz.func58, Tryz.ntmps58
    go_wp2_with fail
    go_ret
    exact ⟨ret_bool HB.out.symm, Only.refl _ _⟩
  have g1 : decide ((s.length : Int) < 1) = false := by rw [decide_eq_false_iff_not]; omega
  by_cases h2 : 4 < s.length
  · have HB : Hid (varB s = false) := by
      rw [Hid, varB, decide_eq_false (by omega)]
      simp
    have g2 : decide ((4 : Int) < (s.length : Int)) = true := by rw [decide_eq_true_iff]; omega
    go_enter Tryz.func58, Tryz.ntmps58
    go_wp2_with fail
    go_ret
    exact ⟨ret_bool HB.out.symm, Only.refl _ _⟩
  have g2 : decide ((4 : Int) < (s.length : Int)) = false := by rw [decide_eq_false_iff_not]; omega
  go_enter Tryz.func58, Tryz.ntmps58
  go_wp2_with fail
  go_loopw [3] (fun i wr => ∃ k : Nat, k ≤ s.length ∧ i = .int .i64 k ∧ ((s.take k).all fun c => decide (65 ≤ c.toNat) && decide (c.toNat ≤ 90)) = true ∧ ∃ ξ : X w No, wr = ξ.v) (fun i _ => s.length - (intOf i).toNat)
  case atStart => exact ⟨0, Nat.zero_le _, rfl, rfl, X.here _ _, rfl⟩
  case round =>
    obtain ⟨k, hk, rfl, hT, ξ, rfl⟩ := hrel
    have HT := Lib.hid hT
    clear hT
    by_cases hlt : k < s.length
    · obtain ⟨x, hx⟩ : ∃ x, s[k] = x := ⟨_, rfl⟩
      have hxs : s[k]? = some x := by rw [List.getElem?_eq_getElem hlt, hx]
      have hxl := x.toNat_lt
      by_cases h3 : 65 ≤ x.toNat ∧ x.toNat ≤ 90
      · have HB : Hid (((s.take (k + 1)).all fun c => decide (65 ≤ c.toNat) && decide (c.toNat ≤ 90)) = true) := by
          have hT := HT.out
          unfold Hid
          rw [List.take_add_one, hxs]
          simp only [Option.toList, List.all_append, hT, List.all_cons, List.all_nil, Bool.and_true, Bool.true_and]
          simp [h3.1, h3.2]
        obtain ⟨h3, h4⟩ := h3
        have g3 : decide ((x.toNat : Int) < 65) = false := by rw [decide_eq_false_iff_not]; omega
        have g4 : decide ((90 : Int) < (x.toNat : Int)) = false := by rw [decide_eq_false_iff_not]; omega
        clear hxs
        go_wp2_with fail
        go_roundw
        case rel => exact ⟨k + 1, by omega, by go_num, HB.out, ξ, rfl⟩
        case measure => simp [intOf]; omega
      · have HB : Hid (varB s = false) := by
          have : (s.all fun c => decide (65 ≤ c.toNat) && decide (c.toNat ≤ 90)) = false := by
            rw [List.all_eq_false]
            refine ⟨x, List.mem_of_getElem? hxs, ?_⟩
            simp only [Bool.and_eq_true, decide_eq_true_eq]
            exact h3
          unfold Hid varB
          rw [this]; rfl
        clear hxs
        by_cases h4 : x.toNat < 65
        · have g3 : decide ((x.toNat : Int) < 65) = true := by rw [decide_eq_true_iff]; omega
          go_wp2_with fail
          go_ret
          exact ⟨by rw [HB.out]; rfl, ξ.h⟩
        · have g3 : decide ((x.toNat : Int) < 65) = false := by rw [decide_eq_false_iff_not]; omega
          have g4 : decide ((90 : Int) < (x.toNat : Int)) = true := by rw [decide_eq_true_iff]; omega
          go_wp2_with fail
          go_ret
          exact ⟨by rw [HB.out]; rfl, ξ.h⟩
    · have HB : Hid (varB s = true) := by
        have hT := HT.out
        rw [List.take_of_length_le (by omega)] at hT
        have hne : (s == ([] : Str)) = false := by
          cases s with
          | nil => simp at h1
          | cons a l => rfl
        unfold Hid varB
        rw [hT, hne, decide_eq_true (by omega)]; rfl
      go_wp2_with fail
      go_ret
      exact ⟨by rw [HB.out]; rfl, ξ.h⟩
theorem fieldsF_blank (w r : Str) (h : (32 : UInt8) ∉ w) : fieldsF (w ++ 32 :: r) = (if w = [] then [] else [w]) ++ fieldsF r := by
  unfold fieldsF
  rw [splB_chunk 32 w _ h, splB_app, if_pos rfl]
  show List.filter neB ((w ++ []) :: splB 32 r) = _
  rw [List.append_nil]
  by_cases hw : w = []
  · subst hw; rfl
  · rw [if_neg hw, List.filter_cons_of_pos]
    · rfl
    · cases w with
      | nil => exact absurd rfl hw
      | cons a l => rfl
theorem fieldsF_end (w : Str) (h : (32 : UInt8) ∉ w) : fieldsF w = (if w = [] then [] else [w]) := by
  unfold fieldsF
  have := splB_chunk 32 w [] h
  rw [List.append_nil] at this
  rw [this]
  show List.filter neB [w ++ []] = _
  rw [List.append_nil]
  by_cases hw : w = []
  · subst hw; rfl
  · rw [if_neg hw]
    cases w with
    | nil => exact absurd rfl hw
    | cons a l => rfl
set_option maxRecDepth 100000 in
set_option maxHeartbeats 2000000 in
theorem RFields_c (s : Str) (hs : s.length ≤ 1000000) (w : World) :
    Calls Tryz.prog 83 #[S s] w fun e w' => ∃ A' c', e = .returned (.slice A' (fieldsF s).length c') ∧ Fresh strF 9 w w' A' c' (fieldsF s) := by
  go_enter Tryz.func83, Tryz.ntmps83
  go_wp2_with fail
  go_loopw [3, 4, 5] (fun z u i wr => ∃ k : Nat, k ≤ s.length ∧ i = .int .i64 k ∧ ∃ L v A c, z = .slice A L.length c ∧ u = S v ∧ Fresh strF 9 w wr A c L ∧ L.length ≤ k ∧ v.length ≤ k ∧ (32 : UInt8) ∉ v ∧ fieldsF s = L ++ fieldsF (v ++ s.drop k)) (fun _ _ i _ => s.length - (intOf i).toNat)
  case atStart => exact ⟨0, Nat.zero_le _, rfl, [], [], none, 0, rfl, rfl, Fresh.nil _ _ _ _ (Only.refl _ _), Nat.le_refl _, Nat.le_refl _, by simp, rfl⟩
  case round =>
    obtain ⟨k, hk, rfl, L, v, A, c, rfl, rfl, hF, hL, hv, h32, hE⟩ := hrel
    have F := Lib.hid hF
    have H32 := Lib.hid h32
    have HE := Lib.hid hE
    clear hF h32 hE
    by_cases hlt : k < s.length
    · obtain ⟨x, hx⟩ : ∃ x, s[k] = x := ⟨_, rfl⟩
      have hxs : s[k]? = some x := by rw [List.getElem?_eq_getElem hlt, hx]
      have HXs := Lib.hid hxs
      have hone : (s.take (k + 1)).drop k = [x] := by rw [List.take_add_one, hxs, List.drop_append_of_le_length (by simp; omega), List.drop_eq_nil_of_le (by simp; omega)]; rfl
      clear hxs
      by_cases h3 : x = 32
      · have e1 : ((x.toNat : Int) == 32) = true := by rw [h3]; rfl
        have HE2 : Hid (fieldsF s = L ++ ((if v = [] then [] else [v]) ++ fieldsF (s.drop (k + 1)))) := by
          rw [Hid, HE.out, drop_get HXs.out, h3, fieldsF_blank v _ H32.out]
        clear HE hone
        cases v with
        | nil =>
          go_wp2_with fail
          go_roundw
          case rel => exact ⟨k + 1, by omega, by go_num, L, [], A, c, rfl, rfl, F.out, by omega, Nat.zero_le _, by simp, by rw [HE2.out]; rfl⟩
          case measure => simp [intOf]; omega
        | cons a v =>
          have F4 := Lib.hid (F.out.on ((Only.refl No wr).alloc (.cells #[S (a :: v)] 9)))
          go_wp2_with (first | (at_builtin; go_must (refine wpList_append (v := .slice A L.length c) (n := L.length) (xs := L.flatMap strF.enc) rfl st_ty rfl rfl rfl F4.out.own (rd_one wr _ [S (a :: v)]) (by simp [Value.oneCell']) (by omega) ?_); intro A4 c4 w5 hown5 hg5 hb5; have F5 := Lib.hid (F4.out.grow (ys := [a :: v]) rfl hown5 hg5 hb5); clear hown5 hg5 hb5) | ((first | refine Mix.wpList_guarded rfl ?_ | refine Mix.wp_still (by kernel_rfl) (by kernel_rfl) ?_); (repeat' (first | (refine Mix.lex_quiet0 rfl rfl rfl ?_; intro K hK; go_big_quiet_op; go_big_quiet_on) | (refine Mix.lex_quietG rfl rfl rfl (by with_reducible rfl) rfl rfl ?_; intro K hK; go_big_quiet_op; go_big_quiet_on) | ((first | refine Mix.lex_skipT rfl rfl rfl (by with_reducible rfl) ?_ | refine Mix.lex_skipF rfl rfl rfl (by with_reducible rfl) ?_ | refine Mix.lex_skipU rfl rfl rfl (by with_reducible rfl) ?_); simp only [Act.put, List.setIfInBounds_toArray, List.set_cons_succ, List.set_cons_zero]) | (refine Mix.lex_part rfl rfl rfl rfl (fun hq => ?_) (fun hq => ?_) <;> (fail_if_success (guard_hyp hq :ₛ true = true)) <;> (fail_if_success (guard_hyp hq :ₛ false = false)) <;> first | (exfalso; cases hq; done) | (exfalso; simp only [decide_eq_true_eq, decide_eq_false_iff_not, beq_iff_eq, beq_eq_false_iff_ne, ne_eq, Int.not_lt, Int.not_le] at hq; omega) | simp only [Act.put, List.setIfInBounds_toArray, List.set_cons_succ, List.set_cons_zero]))); all_goals (refine Mix.lex_nil ?_)))
          go_roundw
          case rel => exact ⟨k + 1, by omega, by go_num, L ++ [a :: v], [], A4, c4, by simp, rfl, F5.out, by simp; omega, Nat.zero_le _, by simp, by rw [HE2.out]; simp⟩
          case measure => simp [intOf]; omega
      · have e1 : ((x.toNat : Int) == 32) = false := by
          rw [beq_eq_false_iff_ne]
          intro h
          exact h3 (UInt8.toNat_inj.1 (by show x.toNat = 32; omega))
        have HE2 : Hid (fieldsF s = L ++ fieldsF ((v ++ [x]) ++ s.drop (k + 1))) := by
          rw [Hid, HE.out, drop_get HXs.out]
          simp
        have H33 : Hid ((32 : UInt8) ∉ v ++ [x]) := by
          intro h
          rcases List.mem_append.1 h with h | h
          · exact H32.out h
          · rw [List.mem_singleton] at h
            exact h3 h.symm
        have hv2 : v.length ≤ 1000000 := by omega
        clear HE
        go_wp2_with fail
        go_roundw
        case rel => exact ⟨k + 1, by omega, by go_num, L, v ++ [x], A, c, rfl, by simp, F.out, by omega, by simp; omega, H33.out, HE2.out⟩
        case measure => simp [intOf]; omega
    · have HE2 : Hid (fieldsF s = L ++ (if v = [] then [] else [v])) := by
        rw [Hid, HE.out, List.drop_of_length_le (by omega), List.append_nil, fieldsF_end v H32.out]
      clear HE
      cases v with
      | nil =>
        go_wp2_with fail
        go_ret
        have e : fieldsF s = L := by rw [HE2.out]; simp
        exact ⟨A, c, by rw [e]; rfl, by rw [e]; exact F.out⟩
      | cons a v =>
        have F4 := Lib.hid (F.out.on ((Only.refl No wr).alloc (.cells #[S (a :: v)] 9)))
        go_wp2_with (first | (at_builtin; go_must (refine wpList_append (v := .slice A L.length c) (n := L.length) (xs := L.flatMap strF.enc) rfl st_ty rfl rfl rfl F4.out.own (rd_one wr _ [S (a :: v)]) (by simp [Value.oneCell']) (by omega) ?_); intro A4 c4 w5 hown5 hg5 hb5; have F5 := Lib.hid (F4.out.grow (ys := [a :: v]) rfl hown5 hg5 hb5); clear hown5 hg5 hb5) | ((first | refine Mix.wpList_guarded rfl ?_ | refine Mix.wp_still (by kernel_rfl) (by kernel_rfl) ?_); (repeat' (first | (refine Mix.lex_quiet0 rfl rfl rfl ?_; intro K hK; go_big_quiet_op; go_big_quiet_on) | (refine Mix.lex_quietG rfl rfl rfl (by with_reducible rfl) rfl rfl ?_; intro K hK; go_big_quiet_op; go_big_quiet_on) | ((first | refine Mix.lex_skipT rfl rfl rfl (by with_reducible rfl) ?_ | refine Mix.lex_skipF rfl rfl rfl (by with_reducible rfl) ?_ | refine Mix.lex_skipU rfl rfl rfl (by with_reducible rfl) ?_); simp only [Act.put, List.setIfInBounds_toArray, List.set_cons_succ, List.set_cons_zero]) | (refine Mix.lex_part rfl rfl rfl rfl (fun hq => ?_) (fun hq => ?_) <;> (fail_if_success (guard_hyp hq :ₛ true = true)) <;> (fail_if_success (guard_hyp hq :ₛ false = false)) <;> first | (exfalso; cases hq; done) | (exfalso; simp only [decide_eq_true_eq, decide_eq_false_iff_not, beq_iff_eq, beq_eq_false_iff_ne, ne_eq, Int.not_lt, Int.not_le] at hq; omega) | simp only [Act.put, List.setIfInBounds_toArray, List.set_cons_succ, List.set_cons_zero]))); all_goals (refine Mix.lex_nil ?_)))
        go_ret
        have e : fieldsF s = L ++ [a :: v] := by rw [HE2.out]; simp
        exact ⟨A4, c4, by rw [e, List.length_append]; rfl, by rw [e]; exact F5.out⟩
theorem cutB_fnd (c : UInt8) (s : Str) : (cutB c s = (s, [], false) ∧ fndI s [c] 0 = -1) ∨ ∃ i : Nat, fndI s [c] 0 = (i : Int) ∧ i + 1 ≤ s.length ∧ cutB c s = (s.take i, s.drop (i + 1), true) := by
  have := fndI_cut s [c]
  rw [cut_byte] at this
  exact this
set_option maxHeartbeats 1000000 in
theorem ROnce_c (s t : Str) (hs : s.length ≤ 1000000) (ht : t.length ≤ 1000000) (w : World) :
    Calls Tryz.prog 84 #[S s, S t] w fun e w' => e = .returned (S (onceF s t)) ∧ Ext w w' := by
  have HC := Lib.hid (rfind1_c s hs 37 0 (Nat.zero_le _) w)
  rcases cutB_fnd 37 s with ⟨h1, h2⟩ | ⟨i, h1, h2, h3⟩
  · have HO : Hid (onceF s t = s) := by
      rw [Hid, onceF, h1]; rfl
    rw [h2] at HC
    go_enter Tryz.func84, Tryz.ntmps84
    go_wp2_with fail
    refine (HC.out).mono ?_; rintro e uu ⟨rfl, hu⟩; obtain ⟨ξ1, hnew⟩ : ∃ ξ : X w No, ξ.v = uu := ⟨⟨uu, (X.here w No).h.then_ext hu⟩, rfl⟩; subst hnew; have Hξ1 := Lib.hid hu; clear hu
    go_wp2_with fail
    go_ret
    exact ⟨by rw [HO.out]; rfl, ξ1.h⟩
  · have HO : Hid (onceF s t = s.take i ++ (t ++ s.drop (i + 1))) := by
      rw [Hid, onceF, h3, ← List.append_assoc]; rfl
    rw [h1] at HC
    have hi : i ≤ 1000000 := by omega
    have g1 : decide ((i : Int) < 0) = false := by rw [decide_eq_false_iff_not]; omega
    go_enter Tryz.func84, Tryz.ntmps84
    go_wp2_with fail
    refine (HC.out).mono ?_; rintro e uu ⟨rfl, hu⟩; obtain ⟨ξ1, hnew⟩ : ∃ ξ : X w No, ξ.v = uu := ⟨⟨uu, (X.here w No).h.then_ext hu⟩, rfl⟩; subst hnew; have Hξ1 := Lib.hid hu; clear hu
    go_upto_region 4 with fail
    (refine Mix.wp_draw [] 100 (Cl (w) (No)) (by kernel_rfl) (by kernel_rfl) (Cl.drew_ ξ1) ?_; (repeat' (first | (refine Mix.lex_quiet0 rfl rfl rfl ?_; intro K hK; go_big_quiet_op; go_big_quiet_on) | (refine Mix.lex_quietG rfl rfl rfl (by with_reducible rfl) rfl rfl ?_; intro K hK; go_big_quiet_op; go_big_quiet_on) | ((first | refine Mix.lex_skipT rfl rfl rfl (by with_reducible rfl) ?_ | refine Mix.lex_skipF rfl rfl rfl (by with_reducible rfl) ?_ | refine Mix.lex_skipU rfl rfl rfl (by with_reducible rfl) ?_); simp only [Act.put, List.setIfInBounds_toArray, List.set_cons_succ, List.set_cons_zero]) | (refine Mix.lex_part rfl rfl rfl rfl (fun hq => ?_) (fun hq => ?_) <;> (fail_if_success (guard_hyp hq :ₛ true = true)) <;> (fail_if_success (guard_hyp hq :ₛ false = false)) <;> first | (exfalso; cases hq; done) | (exfalso; simp only [decide_eq_true_eq, decide_eq_false_iff_not, beq_iff_eq, beq_eq_false_iff_ne, ne_eq, Int.not_lt, Int.not_le] at hq; omega) | simp only [Act.put, List.setIfInBounds_toArray, List.set_cons_succ, List.set_cons_zero]))))
    all_goals (refine Mix.lex_nil ?_)
    go_wp2_with fail
    go_ret
    exact ⟨by rw [HO.out]; rfl, ξ1.h.drew⟩
end Go.Proofs.YtnhaekifcieeoaaGreatDoor
