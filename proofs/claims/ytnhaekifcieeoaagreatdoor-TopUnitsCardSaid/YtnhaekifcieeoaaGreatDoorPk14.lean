/- Put together: Files4, Gxb, Grl, Ton, Uni, Pl0. -/
import Derived.Test.YtnhaekifcieeoaaGreatDoorPk13
import Derived.Test.YtnhaekifcieeoaaGreatDoorPk04
import Derived.Test.YtnhaekifcieeoaaGreatDoorPk11
import Derived.Test.YtnhaekifcieeoaaGreatDoorPk06
import Derived.Test.YtnhaekifcieeoaaGreatDoorPk02
import Derived.Test.YtnhaekifcieeoaaGreatDoorPk01
namespace Go.Proofs.YtnhaekifcieeoaaGreatDoor
open Go Go.RowKit
def lightF1 (f : File) : Bool := decide (f.1.length ≤ 20) && decide (f.2.length ≤ 60)
def lightF (l : List File) : Bool := decide (l.length ≤ 24) && l.all lightF1 && riseB fk l
theorem all_take_succ' {α : Type} {p : α → Bool} {l : List α} {k : Nat} {x : α} (h : (l.take k).all p = true) (hx : l[k]? = some x) (hp : p x = true) : (l.take (k + 1)).all p = true := by
  rw [List.take_add_one, hx]
  simp only [Option.toList, List.all_append, h, List.all_cons, hp, List.all_nil, Bool.and_self]
theorem all_false_at' {α : Type} {p : α → Bool} {l : List α} {k : Nat} {x : α} (hx : l[k]? = some x) (hp : p x = false) : l.all p = false := by
  rw [List.all_eq_false]
  exact ⟨x, List.mem_of_getElem? hx, by rw [hp]; exact Bool.false_ne_true⟩
set_option maxRecDepth 100000 in
set_option maxHeartbeats 1000000 in
theorem LightFiles_c {w : World} {A : Option Addr} {n c : Nat} {xs : List File} (h : SlR fileF w A n xs) (hn0 : n ≤ maxLen) :
    Calls Tryz.prog 9 #[.slice A n c] w fun e w' => e = .returned (.bool (lightF xs)) ∧ Ext w w' := by
  unfold maxLen at hn0
  by_cases hn : n ≤ 24
  · have HN : Hid (decide (xs.length ≤ 24) = true) := by rw [Hid, h.1]; simpa using hn
    go_enter Tryz.func9, Tryz.ntmps9
    go_wp2_with (first | ((first | refine Mix.wpList_guarded rfl ?_ | refine Mix.wp_still (by kernel_rfl) (by kernel_rfl) ?_); (repeat' (first | (refine Mix.lex_quiet0 rfl rfl rfl ?_; intro K hK; go_big_quiet_op; go_big_quiet_on) | (refine Mix.lex_quietG rfl rfl rfl (by with_reducible rfl) rfl rfl ?_; intro K hK; go_big_quiet_op; go_big_quiet_on) | ((first | refine Mix.lex_skipT rfl rfl rfl (by with_reducible rfl) ?_ | refine Mix.lex_skipF rfl rfl rfl (by with_reducible rfl) ?_ | refine Mix.lex_skipU rfl rfl rfl (by with_reducible rfl) ?_); simp only [Act.put, List.setIfInBounds_toArray, List.set_cons_succ, List.set_cons_zero]) | (refine Mix.lex_part rfl rfl rfl rfl (fun hq => ?_) (fun hq => ?_) <;> (fail_if_success (guard_hyp hq :ₛ true = true)) <;> (fail_if_success (guard_hyp hq :ₛ false = false)) <;> first | (exfalso; cases hq; done) | (exfalso; simp only [decide_eq_true_eq, decide_eq_false_iff_not, beq_iff_eq, beq_eq_false_iff_ne, ne_eq, Int.not_lt, Int.not_le] at hq; omega) | simp only [Act.put, List.setIfInBounds_toArray, List.set_cons_succ, List.set_cons_zero]))); all_goals (refine Mix.lex_nil ?_)))
    go_loopw [3] (fun i wr => ∃ k : Nat, k ≤ n ∧ i = .int .i64 k ∧ (xs.take k).all lightF1 = true ∧ (∀ i x y, i + 1 < k → xs[i]? = some x → xs[i + 1]? = some y → fk x < fk y) ∧ ∃ ξ : X w No, wr = ξ.v) (fun i _ => n - (intOf i).toNat)
    case atStart => exact ⟨0, Nat.zero_le _, rfl, rfl, fun i x y hi => by omega, X.here _ _, rfl⟩
    case round =>
      obtain ⟨k, hk, rfl, hT, hR, ξ, rfl⟩ := hrel
      have HT := Lib.hid hT
      have HR := Lib.hid hR
      clear hT hR
      by_cases hlt : k < n
      · obtain ⟨b, o, x, rfl, hx, c0, c1⟩ := files_get h hlt
        have HX := Lib.hid hx
        clear hx
        by_cases h1 : x.1.length ≤ 20
        · by_cases h2 : x.2.length ≤ 60
          · have hp : Hid (lightF1 x = true) := by unfold Hid lightF1; rw [decide_eq_true h1, decide_eq_true h2]; rfl
            have g1 : decide ((20 : Int) < (x.1.length : Int)) = false := by rw [decide_eq_false_iff_not]; omega
            have g2 : decide ((60 : Int) < (x.2.length : Int)) = false := by rw [decide_eq_false_iff_not]; omega
            by_cases h0 : k = 0
            · have hz : decide (0 < k) = false := by rw [decide_eq_false_iff_not]; omega
              have H0 := Lib.hid h0
              clear h0
              go_wp2_with (first | ((first | refine Mix.wpList_guarded rfl ?_ | refine Mix.wp_still (by kernel_rfl) (by kernel_rfl) ?_); (repeat' (first | (refine Mix.lex_quiet0 rfl rfl rfl ?_; intro K hK; go_big_quiet_op; go_big_quiet_on) | (refine Mix.lex_quietG rfl rfl rfl (by with_reducible rfl) rfl rfl ?_; intro K hK; go_big_quiet_op; go_big_quiet_on) | ((first | refine Mix.lex_skipT rfl rfl rfl (by with_reducible rfl) ?_ | refine Mix.lex_skipF rfl rfl rfl (by with_reducible rfl) ?_ | refine Mix.lex_skipU rfl rfl rfl (by with_reducible rfl) ?_); simp only [Act.put, List.setIfInBounds_toArray, List.set_cons_succ, List.set_cons_zero]) | (refine Mix.lex_part rfl rfl rfl rfl (fun hq => ?_) (fun hq => ?_) <;> (fail_if_success (guard_hyp hq :ₛ true = true)) <;> (fail_if_success (guard_hyp hq :ₛ false = false)) <;> first | (exfalso; cases hq; done) | (exfalso; simp only [decide_eq_true_eq, decide_eq_false_iff_not, beq_iff_eq, beq_eq_false_iff_ne, ne_eq, Int.not_lt, Int.not_le] at hq; omega) | simp only [Act.put, List.setIfInBounds_toArray, List.set_cons_succ, List.set_cons_zero]))); all_goals (refine Mix.lex_nil ?_)))
              go_roundw
              case rel => exact ⟨k + 1, by omega, by go_num, all_take_succ' HT.out HX.out hp.out, fun i x y hi => (by have := H0.out; omega), ⟨_, ξ.h.drew⟩, rfl⟩
              case measure => simp [intOf]; omega
            · obtain ⟨b', o', y, hA, hy, e0, _⟩ := files_get h (show k - 1 < n by omega)
              injection hA with hA
              injection hA with hA1 hA2
              subst hA1; subst hA2
              obtain ⟨m, rfl⟩ : ∃ m, k = m + 1 := ⟨k - 1, by omega⟩
              have hz : decide (0 < m + 1) = true := by rw [decide_eq_true_iff]; omega
              rw [Nat.add_sub_cancel] at e0 hy
              have HY := Lib.hid hy
              clear hy h0
              cases hq : leB x.1 y.1 with
              | true =>
                have HB : Hid (riseB fk xs = false) := by
                  cases hb : riseB fk xs with
                  | false => rfl
                  | true => exact absurd (riseB_iff.1 hb m y x HY.out HX.out) (sle_iff.1 (leB_true hq))
                go_wp2_with (first | ((first | refine Mix.wpList_guarded rfl ?_ | refine Mix.wp_still (by kernel_rfl) (by kernel_rfl) ?_); (repeat' (first | (refine Mix.lex_quiet0 rfl rfl rfl ?_; intro K hK; go_big_quiet_op; go_big_quiet_on) | (refine Mix.lex_quietG rfl rfl rfl (by with_reducible rfl) rfl rfl ?_; intro K hK; go_big_quiet_op; go_big_quiet_on) | ((first | refine Mix.lex_skipT rfl rfl rfl (by with_reducible rfl) ?_ | refine Mix.lex_skipF rfl rfl rfl (by with_reducible rfl) ?_ | refine Mix.lex_skipU rfl rfl rfl (by with_reducible rfl) ?_); simp only [Act.put, List.setIfInBounds_toArray, List.set_cons_succ, List.set_cons_zero]) | (refine Mix.lex_part rfl rfl rfl rfl (fun hq => ?_) (fun hq => ?_) <;> (fail_if_success (guard_hyp hq :ₛ true = true)) <;> (fail_if_success (guard_hyp hq :ₛ false = false)) <;> first | (exfalso; cases hq; done) | (exfalso; simp only [decide_eq_true_eq, decide_eq_false_iff_not, beq_iff_eq, beq_eq_false_iff_ne, ne_eq, Int.not_lt, Int.not_le] at hq; omega) | simp only [Act.put, List.setIfInBounds_toArray, List.set_cons_succ, List.set_cons_zero]))); all_goals (refine Mix.lex_nil ?_)))
                go_ret
                exact ⟨ret_bool (by unfold lightF; rw [HB.out, Bool.and_false]), ξ.h.drew⟩
              | false =>
                have hyx : Hid (fk y < fk x) := leB_false hq
                go_wp2_with (first | ((first | refine Mix.wpList_guarded rfl ?_ | refine Mix.wp_still (by kernel_rfl) (by kernel_rfl) ?_); (repeat' (first | (refine Mix.lex_quiet0 rfl rfl rfl ?_; intro K hK; go_big_quiet_op; go_big_quiet_on) | (refine Mix.lex_quietG rfl rfl rfl (by with_reducible rfl) rfl rfl ?_; intro K hK; go_big_quiet_op; go_big_quiet_on) | ((first | refine Mix.lex_skipT rfl rfl rfl (by with_reducible rfl) ?_ | refine Mix.lex_skipF rfl rfl rfl (by with_reducible rfl) ?_ | refine Mix.lex_skipU rfl rfl rfl (by with_reducible rfl) ?_); simp only [Act.put, List.setIfInBounds_toArray, List.set_cons_succ, List.set_cons_zero]) | (refine Mix.lex_part rfl rfl rfl rfl (fun hq => ?_) (fun hq => ?_) <;> (fail_if_success (guard_hyp hq :ₛ true = true)) <;> (fail_if_success (guard_hyp hq :ₛ false = false)) <;> first | (exfalso; cases hq; done) | (exfalso; simp only [decide_eq_true_eq, decide_eq_false_iff_not, beq_iff_eq, beq_eq_false_iff_ne, ne_eq, Int.not_lt, Int.not_le] at hq; omega) | simp only [Act.put, List.setIfInBounds_toArray, List.set_cons_succ, List.set_cons_zero]))); all_goals (refine Mix.lex_nil ?_)))
                go_roundw
                case rel =>
                  refine ⟨m + 2, by omega, by go_num, all_take_succ' HT.out HX.out hp.out, fun i x' y' hi hx' hy' => ?_, ⟨_, ξ.h.drew⟩, rfl⟩
                  by_cases e : i = m
                  · subst e
                    rw [HY.out] at hx'
                    rw [HX.out] at hy'
                    injection hx' with hx'
                    injection hy' with hy'
                    rw [← hx', ← hy']
                    exact hyx.out
                  · exact HR.out i x' y' (by omega) hx' hy'
                case measure => simp [intOf]; omega
          · have HB : Hid (xs.all lightF1 = false) := all_false_at' HX.out (by unfold lightF1; rw [decide_eq_false h2, Bool.and_false])
            go_wp2_with (first | ((first | refine Mix.wpList_guarded rfl ?_ | refine Mix.wp_still (by kernel_rfl) (by kernel_rfl) ?_); (repeat' (first | (refine Mix.lex_quiet0 rfl rfl rfl ?_; intro K hK; go_big_quiet_op; go_big_quiet_on) | (refine Mix.lex_quietG rfl rfl rfl (by with_reducible rfl) rfl rfl ?_; intro K hK; go_big_quiet_op; go_big_quiet_on) | ((first | refine Mix.lex_skipT rfl rfl rfl (by with_reducible rfl) ?_ | refine Mix.lex_skipF rfl rfl rfl (by with_reducible rfl) ?_ | refine Mix.lex_skipU rfl rfl rfl (by with_reducible rfl) ?_); simp only [Act.put, List.setIfInBounds_toArray, List.set_cons_succ, List.set_cons_zero]) | (refine Mix.lex_part rfl rfl rfl rfl (fun hq => ?_) (fun hq => ?_) <;> (fail_if_success (guard_hyp hq :ₛ true = true)) <;> (fail_if_success (guard_hyp hq :ₛ false = false)) <;> first | (exfalso; cases hq; done) | (exfalso; simp only [decide_eq_true_eq, decide_eq_false_iff_not, beq_iff_eq, beq_eq_false_iff_ne, ne_eq, Int.not_lt, Int.not_le] at hq; omega) | simp only [Act.put, List.setIfInBounds_toArray, List.set_cons_succ, List.set_cons_zero]))); all_goals (refine Mix.lex_nil ?_)))
            go_ret
            exact ⟨ret_bool (by unfold lightF; rw [HB.out, Bool.and_false, Bool.false_and]), ξ.h.drew⟩
        · have HB : Hid (xs.all lightF1 = false) := all_false_at' HX.out (by unfold lightF1; rw [decide_eq_false h1, Bool.false_and])
          go_wp2_with (first | ((first | refine Mix.wpList_guarded rfl ?_ | refine Mix.wp_still (by kernel_rfl) (by kernel_rfl) ?_); (repeat' (first | (refine Mix.lex_quiet0 rfl rfl rfl ?_; intro K hK; go_big_quiet_op; go_big_quiet_on) | (refine Mix.lex_quietG rfl rfl rfl (by with_reducible rfl) rfl rfl ?_; intro K hK; go_big_quiet_op; go_big_quiet_on) | ((first | refine Mix.lex_skipT rfl rfl rfl (by with_reducible rfl) ?_ | refine Mix.lex_skipF rfl rfl rfl (by with_reducible rfl) ?_ | refine Mix.lex_skipU rfl rfl rfl (by with_reducible rfl) ?_); simp only [Act.put, List.setIfInBounds_toArray, List.set_cons_succ, List.set_cons_zero]) | (refine Mix.lex_part rfl rfl rfl rfl (fun hq => ?_) (fun hq => ?_) <;> (fail_if_success (guard_hyp hq :ₛ true = true)) <;> (fail_if_success (guard_hyp hq :ₛ false = false)) <;> first | (exfalso; cases hq; done) | (exfalso; simp only [decide_eq_true_eq, decide_eq_false_iff_not, beq_iff_eq, beq_eq_false_iff_ne, ne_eq, Int.not_lt, Int.not_le] at hq; omega) | simp only [Act.put, List.setIfInBounds_toArray, List.set_cons_succ, List.set_cons_zero]))); all_goals (refine Mix.lex_nil ?_)))
          go_ret
          exact ⟨ret_bool (by unfold lightF; rw [HB.out, Bool.and_false, Bool.false_and]), ξ.h.drew⟩
      · have HB : Hid (lightF xs = true) := by
          have hT := HT.out
          rw [List.take_of_length_le (by rw [h.1]; omega)] at hT
          unfold Hid lightF
          rw [HN.out, hT, riseB_iff.2 fun i x y hx hy => HR.out i x y (by have := (List.getElem?_eq_some_iff.1 hy).1; rw [h.1] at this; omega) hx hy]
          rfl
        go_wp2_with (first | ((first | refine Mix.wpList_guarded rfl ?_ | refine Mix.wp_still (by kernel_rfl) (by kernel_rfl) ?_); (repeat' (first | (refine Mix.lex_quiet0 rfl rfl rfl ?_; intro K hK; go_big_quiet_op; go_big_quiet_on) | (refine Mix.lex_quietG rfl rfl rfl (by with_reducible rfl) rfl rfl ?_; intro K hK; go_big_quiet_op; go_big_quiet_on) | ((first | refine Mix.lex_skipT rfl rfl rfl (by with_reducible rfl) ?_ | refine Mix.lex_skipF rfl rfl rfl (by with_reducible rfl) ?_ | refine Mix.lex_skipU rfl rfl rfl (by with_reducible rfl) ?_); simp only [Act.put, List.setIfInBounds_toArray, List.set_cons_succ, List.set_cons_zero]) | (refine Mix.lex_part rfl rfl rfl rfl (fun hq => ?_) (fun hq => ?_) <;> (fail_if_success (guard_hyp hq :ₛ true = true)) <;> (fail_if_success (guard_hyp hq :ₛ false = false)) <;> first | (exfalso; cases hq; done) | (exfalso; simp only [decide_eq_true_eq, decide_eq_false_iff_not, beq_iff_eq, beq_eq_false_iff_ne, ne_eq, Int.not_lt, Int.not_le] at hq; omega) | simp only [Act.put, List.setIfInBounds_toArray, List.set_cons_succ, List.set_cons_zero]))); all_goals (refine Mix.lex_nil ?_)))
        go_ret
        exact ⟨ret_bool HB.out.symm, ξ.h⟩
  · have HN : Hid (lightF xs = false) := by
      have : decide (xs.length ≤ 24) = false := by rw [h.1]; simpa using hn
      rw [Hid, lightF, this]; rfl
    go_enter Tryz.func9, Tryz.ntmps9
    go_wp2_with (first | ((first | refine Mix.wpList_guarded rfl ?_ | refine Mix.wp_still (by kernel_rfl) (by kernel_rfl) ?_); (repeat' (first | (refine Mix.lex_quiet0 rfl rfl rfl ?_; intro K hK; go_big_quiet_op; go_big_quiet_on) | (refine Mix.lex_quietG rfl rfl rfl (by with_reducible rfl) rfl rfl ?_; intro K hK; go_big_quiet_op; go_big_quiet_on) | ((first | refine Mix.lex_skipT rfl rfl rfl (by with_reducible rfl) ?_ | refine Mix.lex_skipF rfl rfl rfl (by with_reducible rfl) ?_ | refine Mix.lex_skipU rfl rfl rfl (by with_reducible rfl) ?_); simp only [Act.put, List.setIfInBounds_toArray, List.set_cons_succ, List.set_cons_zero]) | (refine Mix.lex_part rfl rfl rfl rfl (fun hq => ?_) (fun hq => ?_) <;> (fail_if_success (guard_hyp hq :ₛ true = true)) <;> (fail_if_success (guard_hyp hq :ₛ false = false)) <;> first | (exfalso; cases hq; done) | (exfalso; simp only [decide_eq_true_eq, decide_eq_false_iff_not, beq_iff_eq, beq_eq_false_iff_ne, ne_eq, Int.not_lt, Int.not_le] at hq; omega) | simp only [Act.put, List.setIfInBounds_toArray, List.set_cons_succ, List.set_cons_zero]))); all_goals (refine Mix.lex_nil ?_)))
    go_ret
    exact ⟨ret_bool HN.out.symm, Only.refl _ _⟩
theorem lightF_facts {xs : List File} (h : lightF xs = true) : xs.length ≤ 24 ∧ (∀ x ∈ xs, x.1.length ≤ 20 ∧ x.2.length ≤ 60) ∧ Rise fk xs := by
  simp only [lightF, Bool.and_eq_true, decide_eq_true_eq, List.all_eq_true, lightF1] at h
  exact ⟨h.1.1, fun x hx => h.1.2 x hx, rise_of h.2⟩
theorem gbd {s : Str} {l : List File} (h : lightF l = true) : GBd (parseF s).1 l := by
  have hf := parseF_fit s
  have hm := parseF_mlen s
  obtain ⟨h1, _, h3⟩ := lightF_facts h
  refine ⟨Nat.le_trans hf.r (by decide), fun r hr => ?_, Nat.le_trans hf.p (by decide), by omega, h3⟩
  obtain ⟨p1, p2, p3, p4⟩ := hf.rt r hr
  have q := hm.r r hr
  exact ⟨p1, p2, p3, p4, fun x hx => by have := q.t x hx; omega, fun x hx => by have := q.n x hx; omega, fun x hx => by have := q.c x hx; omega⟩
theorem flat_len {α β : Type} {f : α → List β} {k : Nat} : ∀ {l : List α}, (∀ x ∈ l, (f x).length ≤ k) → (l.flatMap f).length ≤ k * l.length
  | [], _ => by simp
  | x :: xs, h => by
    have h1 := h x (by simp)
    have h2 := flat_len (l := xs) fun y hy => h y (List.mem_cons_of_mem _ hy)
    simp only [List.flatMap_cons, List.length_append, List.length_cons]
    rw [Nat.mul_add]
    omega
theorem cand_few {s : Str} {l : List File} (h : lightF l = true) (goal : Str) : (candF (parseF s).1 l goal).length < 100 := by
  have hf := parseF_fit s
  obtain ⟨h1, _, _⟩ := lightF_facts h
  have a1 := flat_len (f := fun r : Rul => r.targets) (k := 2) (l := (parseF s).1.rules) fun r hr => (hf.rt r hr).2.1
  have a2 := flat_len (f := fun r : Rul => ndsOf r []) (k := 3) (l := (parseF s).1.rules) fun r hr => by
    show (ndsOf r []).length ≤ 3
    unfold ndsOf
    rw [List.length_map]
    exact (hf.rt r hr).2.2.1
  have a3 := hf.r
  unfold candF
  simp only [List.length_append, List.length_cons, List.length_map]
  omega
theorem cand_len {s : Str} {l : List File} (h : lightF l = true) {goal : Str} (hg : goal.length ≤ 20) : ∀ x ∈ candF (parseF s).1 l goal, x.length ≤ 200 := by
  have hm := parseF_mlen s
  obtain ⟨_, h2, _⟩ := lightF_facts h
  intro x hx
  unfold candF at hx
  simp only [List.mem_append, List.mem_cons, List.mem_map, List.mem_flatMap] at hx
  rcases hx with (((rfl | ⟨y, hy, rfl⟩) | ⟨r, hr, hx⟩)) | ⟨r, hr, hx⟩
  · omega
  · have := (h2 y hy).1; omega
  · have := (hm.r r hr).t x hx; omega
  · unfold ndsOf at hx
    obtain ⟨y, hy, rfl⟩ := List.mem_map.1 hx
    have q1 := (hm.r r hr).n y hy
    have q2 := onceF_len y []
    simp only [List.length_nil] at q2
    omega
def Uniq (m : Mk) : Prop := ∀ r ∈ m.rules, ∀ q ∈ m.rules, ∀ t, t ∈ r.targets → t ∈ q.targets → r = q
theorem explF_none {rs : List Rul} {n : Str} (h : explF rs n = none) : ∀ r ∈ rs, n ∉ r.targets := by
  intro r hr hn
  unfold explF at h
  have := List.find?_eq_none.1 h r hr
  simp [inS, hn] at this
theorem groupF_tgt (m : Mk) (r : Rul) (n : Str) : (groupF m r n []).targets = r.targets := by simp [groupF, tgtOf]
theorem groupF_nil (m : Mk) (r : Rul) (n k : Str) : groupF m r n [] = groupF m r k [] := by simp [groupF, tgtOf]
theorem share {m : Mk} {l : List File} (hu : Uniq m) {n k t : Str} {g q : Grp} (hg : ruleF m l n = some g) (hq : ruleF m l k = some q) (h1 : t ∈ g.targets) (h2 : t ∈ q.targets) : g = q := by
  rcases ruleF_some hg with ⟨r, hr, rfl⟩ | ⟨hn, r, _, hs, rfl, _⟩
  · rcases ruleF_some hq with ⟨r', hr', rfl⟩ | ⟨hn', r', _, hs', rfl, _⟩
    · rw [groupF_tgt] at h1 h2
      have := hu r (explF_some hr).1 r' (explF_some hr').1 t h1 h2
      subst this
      exact groupF_nil _ _ _ _
    · exfalso
      rw [groupF_tgt] at h1
      have h2 : t ∈ tgtOf r' k _ := h2
      unfold tgtOf at h2
      rw [if_neg (stemL_ne hs'), List.mem_singleton] at h2
      subst h2
      exact explF_none hn' r (explF_some hr).1 h1
  · have e1 : t = n := by
      have h1 : t ∈ tgtOf r n _ := h1
      unfold tgtOf at h1
      rwa [if_neg (stemL_ne hs), List.mem_singleton] at h1
    rcases ruleF_some hq with ⟨r', hr', rfl⟩ | ⟨hn', r', _, hs', rfl, _⟩
    · exfalso
      rw [groupF_tgt] at h2
      subst e1
      exact explF_none hn r' (explF_some hr').1 h2
    · have e2 : t = k := by
        have h2 : t ∈ tgtOf r' k _ := h2
        unfold tgtOf at h2
        rwa [if_neg (stemL_ne hs'), List.mem_singleton] at h2
      subst e1; subst e2
      rw [hg] at hq
      exact Option.some.inj hq
structure GOk (m : Mk) (l : List File) (out : List Grp) : Prop where
  rl : ∀ g ∈ out, ∃ n, ruleF m l n = some g
  ds : out.Pairwise fun a b => ∀ t ∈ a.targets, t ∉ b.targets
  tp : ∀ (i : Nat) g, out[i]? = some g → ∀ n ∈ g.needs, (∃ k q, k < i ∧ out[k]? = some q ∧ n ∈ q.targets) ∨ (ruleF m l n = none ∧ isF l n = true)
def WayOk (m : Mk) (l : List File) (way : List Str) : Prop := ∀ t ∈ way, ∃ g n, ruleF m l n = some g ∧ t ∈ g.targets ∧ ∀ u ∈ g.targets, u ∈ way
def OffW (way : List Str) (out : List Grp) : Prop := ∀ g ∈ out, ∀ t ∈ g.targets, t ∉ way
def HasN (m : Mk) (l : List File) (out : List Grp) (n : Str) : Prop := (∃ g ∈ out, n ∈ g.targets) ∨ (ruleF m l n = none ∧ isF l n = true)
theorem makerF_none {out : List Grp} {n : Str} (h : (makerF out n).isSome = false) : ∀ g ∈ out, n ∉ g.targets := by
  intro g hg hn
  unfold makerF at h
  have : out.findIdx? (fun g => inS g.targets n) = none := by simpa using h
  have := List.findIdx?_eq_none_iff.1 this g hg
  simp [inS, hn] at this
theorem makerF_some {out : List Grp} {n : Str} {i : Nat} (h : makerF out n = some i) : ∃ g, out[i]? = some g ∧ n ∈ g.targets := by
  unfold makerF at h
  obtain ⟨hi, h1, _⟩ := List.findIdx?_eq_some_iff_getElem.1 h
  exact ⟨out[i], List.getElem?_eq_getElem hi, by simpa [inS] using h1⟩
theorem makerF_at {out : List Grp} (hd : out.Pairwise fun a b => ∀ t ∈ a.targets, t ∉ b.targets) {n : Str} {i : Nat} {g : Grp} (hg : out[i]? = some g) (hn : n ∈ g.targets) : makerF out n = some i := by
  obtain ⟨hi, e⟩ := List.getElem?_eq_some_iff.1 hg
  unfold makerF
  refine List.findIdx?_eq_some_iff_getElem.2 ⟨hi, by rw [e]; simpa [inS] using hn, fun j hj => ?_⟩
  have := List.pairwise_iff_getElem.1 hd j i (by omega) hi hj
  rw [e] at this
  have h2 : n ∉ (out[j]'(by omega)).targets := fun h => this n h hn
  simpa [inS] using h2
section
variable {m : Mk} {l : List File}
theorem GOk.add {out : List Grp} {g : Grp} {n : Str} (h : GOk m l out) (hr : ruleF m l n = some g) (hd : ∀ q ∈ out, ∀ t ∈ q.targets, t ∉ g.targets) (hn : ∀ k ∈ g.needs, HasN m l out k) : GOk m l (out ++ [g]) := by
  refine ⟨fun q hq => ?_, ?_, fun i q hi k hk => ?_⟩
  · rcases List.mem_append.1 hq with hq | hq
    · exact h.rl q hq
    · obtain rfl : q = g := by simpa using hq
      exact ⟨n, hr⟩
  · refine List.pairwise_append.2 ⟨h.ds, List.pairwise_singleton _ _, fun a ha b hb => ?_⟩
    obtain rfl : b = g := by simpa using hb
    exact hd a ha
  · rcases Nat.lt_or_ge i out.length with hlt | hge
    · rw [List.getElem?_append_left hlt] at hi
      rcases h.tp i q hi k hk with ⟨j, p, h1, h2, h3⟩ | h1
      · exact .inl ⟨j, p, h1, by rw [List.getElem?_append_left (by omega)]; exact h2, h3⟩
      · exact .inr h1
    · rw [List.getElem?_append_right hge] at hi
      have hz : i - out.length = 0 := by
        rcases Nat.eq_zero_or_pos (i - out.length) with h0 | h0
        · exact h0
        · rw [List.getElem?_eq_none (by simp only [List.length_singleton]; omega)] at hi; cases hi
      rw [hz] at hi
      obtain rfl : g = q := by simpa using hi
      rcases hn k hk with ⟨p, hp, hk2⟩ | h1
      · obtain ⟨j, hj, e⟩ := List.getElem_of_mem hp
        exact .inl ⟨j, p, by omega, by rw [List.getElem?_append_left hj, List.getElem?_eq_getElem hj, e], hk2⟩
      · exact .inr h1
theorem HasN.more {out new : List Grp} {n : Str} (h : HasN m l out n) : HasN m l (out ++ new) n := by
  rcases h with ⟨g, hg, hn⟩ | h
  · exact .inl ⟨g, List.mem_append_left _ hg, hn⟩
  · exact .inr h
theorem needsF_ok {way : List Str} {rec : List Grp → Str → List Grp × Int} (hrec : ∀ out n, GOk m l out → OffW way out → (rec out n).2 = 0 → (∃ new, (rec out n).1 = out ++ new) ∧ GOk m l (rec out n).1 ∧ OffW way (rec out n).1 ∧ HasN m l (rec out n).1 n) :
    ∀ (ns : List Str) (out : List Grp), GOk m l out → OffW way out → (needsF rec out ns).2 = 0 → (∃ new, (needsF rec out ns).1 = out ++ new) ∧ GOk m l (needsF rec out ns).1 ∧ OffW way (needsF rec out ns).1 ∧ ∀ n ∈ ns, HasN m l (needsF rec out ns).1 n
  | [], out, h1, h2, _ => ⟨⟨[], by simp [needsF]⟩, h1, h2, fun n hn => by cases hn⟩
  | n :: ns, out, h1, h2, h0 => by
    unfold needsF at h0 ⊢
    split at h0
    · rename_i hne; exact absurd h0 hne
    · rename_i he
      rw [if_neg he]
      have he : (rec out n).2 = 0 := by omega
      obtain ⟨⟨new, e1⟩, k1, k2, k3⟩ := hrec out n h1 h2 he
      obtain ⟨⟨new2, e2⟩, j1, j2, j3⟩ := needsF_ok hrec ns _ k1 k2 h0
      refine ⟨⟨new ++ new2, by rw [e2, e1, List.append_assoc]⟩, j1, j2, fun k hk => ?_⟩
      rcases List.mem_cons.1 hk with rfl | hk
      · rw [e2]; exact k3.more
      · exact j3 k hk
theorem visitF_ok (hu : Uniq m) : ∀ (f : Nat) (way : List Str) (out : List Grp) (name : Str), WayOk m l way → GOk m l out → OffW way out → (visitF m l f way out name).2 = 0 →
    (∃ new, (visitF m l f way out name).1 = out ++ new) ∧ GOk m l (visitF m l f way out name).1 ∧ OffW way (visitF m l f way out name).1 ∧ HasN m l (visitF m l f way out name).1 name
  | 0, _, _, _, _, _, _, h => by simp [visitF] at h
  | f + 1, way, out, name, hw, ho, hf, h => by
    unfold visitF at h ⊢
    by_cases h1 : inS way name = true
    · rw [if_pos h1] at h; simp at h
    rw [if_neg h1] at h ⊢
    by_cases h2 : (makerF out name).isSome = true
    · rw [if_pos h2]
      obtain ⟨i, hi⟩ := Option.isSome_iff_exists.1 h2
      obtain ⟨g, hg, hn⟩ := makerF_some hi
      exact ⟨⟨[], by simp⟩, ho, hf, .inl ⟨g, List.mem_of_getElem? hg, hn⟩⟩
    rw [if_neg h2] at h ⊢
    cases hr : ruleF m l name with
    | none =>
      rw [hr] at h
      simp only at h ⊢
      by_cases h3 : isF l name = true
      · rw [if_pos h3]
        exact ⟨⟨[], by simp⟩, ho, hf, .inr ⟨hr, h3⟩⟩
      · rw [if_neg h3] at h; simp at h
    | some g =>
      rw [hr] at h
      simp only at h ⊢
      have hnw : name ∉ way := by simpa [inS] using h1
      have hown := ruleF_own hr
      have hoff : ∀ q ∈ out, ∀ t ∈ q.targets, t ∉ g.targets := fun q hq t ht htg => by
        obtain ⟨k, hk⟩ := ho.rl q hq
        have := share hu hr hk htg ht
        subst this
        exact makerF_none (by simpa using h2) g hq hown
      have hw2 : WayOk m l (way ++ g.targets) := fun t ht => by
        rcases List.mem_append.1 ht with ht | ht
        · obtain ⟨q, k, a, b, c⟩ := hw t ht
          exact ⟨q, k, a, b, fun u hu => List.mem_append_left _ (c u hu)⟩
        · exact ⟨g, name, hr, ht, fun u hu => List.mem_append_right _ hu⟩
      have hf2 : OffW (way ++ g.targets) out := fun q hq t ht hm => by
        rcases List.mem_append.1 hm with hm | hm
        · exact hf q hq t ht hm
        · exact hoff q hq t ht hm
      have key := needsF_ok (m := m) (l := l) (way := way ++ g.targets) (rec := visitF m l f (way ++ g.targets)) (fun o n a b c => visitF_ok hu f _ o n hw2 a b c) g.needs out ho hf2
      generalize needsF (visitF m l f (way ++ g.targets)) out g.needs = R at h key ⊢
      by_cases h3 : R.2 ≠ 0
      · rw [if_pos h3] at h; exact absurd h h3
      rw [if_neg h3] at h ⊢
      by_cases h4 : R.1.length = 10
      · rw [if_pos h4] at h; simp at h
      rw [if_neg h4]
      obtain ⟨⟨new, e⟩, k1, k2, k3⟩ := key (by omega)
      refine ⟨⟨new ++ [g], by show R.1 ++ [g] = _; rw [e, List.append_assoc]⟩, k1.add hr (fun q hq t ht htg => k2 q hq t ht (List.mem_append_right _ htg)) k3, fun q hq t ht hm => ?_, .inl ⟨g, by simp, hown⟩⟩
      rcases List.mem_append.1 hq with hq | hq
      · exact k2 q hq t ht (List.mem_append_left _ hm)
      · obtain rfl : q = g := by simpa using hq
        obtain ⟨p, k, a, b, c⟩ := hw t hm
        have := share hu hr a ht b
        subst this
        exact hnw (c _ hown)
theorem visitF_len : ∀ (f : Nat) (way : List Str) (out : List Grp) (name : Str), out.length ≤ 10 → (visitF m l f way out name).1.length ≤ 10
  | 0, _, _, _, h => h
  | f + 1, way, out, name, h => by
    have hn : ∀ (ns : List Str) (o : List Grp) (w : List Str), o.length ≤ 10 → (needsF (visitF m l f w) o ns).1.length ≤ 10 := by
      intro ns
      induction ns with
      | nil => intro o w ho; exact ho
      | cons n ns ih =>
        intro o w ho
        unfold needsF
        split
        · exact visitF_len f w o n ho
        · exact ih _ w (visitF_len f w o n ho)
    unfold visitF
    split
    · exact h
    · split
      · exact h
      · split
        · split <;> exact h
        · rename_i g _
          have := hn g.needs out (way ++ g.targets) h
          split
          · exact this
          · split
            · exact this
            · simp only [List.length_append, List.length_cons, List.length_nil]; omega
theorem groupsF_ok (hu : Uniq m) {goal : Str} (h : (groupsF m l goal).2 = 0) : GOk m l (groupsF m l goal).1 ∧ (groupsF m l goal).1.length ≤ 10 ∧
    ((groupsF m l goal).1 = [] → isF l goal = true) ∧ (∀ g, (groupsF m l goal).1.getLast? = some g → goal ∈ g.targets) := by
  unfold groupsF at h ⊢
  split at h
  · simp at h
  rename_i h0
  rw [if_neg h0]
  split at h
  · rename_i h1; exact absurd h h1
  rename_i h1
  rw [if_neg h1]
  have h1 : (visitF m l 100 [] [] goal).2 = 0 := by omega
  have hlen := visitF_len (m := m) (l := l) 100 [] [] goal (by simp)
  have hok := visitF_ok hu 100 [] [] goal (fun t ht => by cases ht) ⟨fun g hg => (by cases hg), List.Pairwise.nil, fun i g hi => (by simp at hi)⟩ (fun g hg => by cases hg) h1
  refine ⟨hok.2.1, hlen, fun he => ?_, fun g hg => ?_⟩
  · rcases hok.2.2.2 with ⟨g, hg, _⟩ | h2
    · have he : (visitF m l 100 [] [] goal).1 = [] := he
      rw [he] at hg; cases hg
    · exact h2.2
  · have hg : (visitF m l (99 + 1) [] [] goal).1.getLast? = some g := hg
    have h1 : (visitF m l (99 + 1) [] [] goal).2 = 0 := h1
    unfold visitF at hg h1
    rw [if_neg (by simp [inS]), if_neg (by simp [makerF])] at hg h1
    cases hr : ruleF m l goal with
    | none =>
      rw [hr] at hg
      simp only at hg
      split at hg <;> simp at hg
    | some q =>
      rw [hr] at hg h1
      simp only at hg h1
      split at hg
      · rename_i h2; rw [if_pos h2] at h1; exact absurd h1 h2
      · rename_i h2
        rw [if_neg h2] at h1
        split at hg
        · rename_i h3; rw [if_pos h3] at h1; simp at h1
        · simp only [List.getLast?_append, List.getLast?_singleton, Option.or_some, Option.some.injEq] at hg
          have e : q = g := by simpa using hg
          subst e
          exact ruleF_own hr
end
theorem dupF_false : ∀ {ts made : List Str}, dupF made ts = false → (∀ t ∈ ts, t ∉ made) ∧ ts.Nodup
  | [], made, _ => ⟨fun t ht => (by cases ht), List.nodup_nil⟩
  | t :: ts, made, h => by
    unfold dupF at h
    simp only [Bool.or_eq_false_iff] at h
    obtain ⟨h1, h2⟩ := dupF_false h.2
    have ht : t ∉ made := by simpa [inS] using h.1
    refine ⟨fun u hu => ?_, List.nodup_cons.2 ⟨fun hm => h1 t hm (by simp), h2⟩⟩
    rcases List.mem_cons.1 hu with rfl | hu
    · exact ht
    · exact fun hm => h1 u hu (List.mem_append_left _ hm)
theorem chkR_uniq (ph : List Str) : ∀ {rs : List Rul} {made all : List Str}, chkR ph rs made = some all → (∀ r ∈ rs, (∀ t ∈ r.targets, t ∉ made) ∧ r.targets.Nodup ∧ ruleOk ph r = true) ∧ rs.Pairwise (fun a b => ∀ t ∈ a.targets, t ∉ b.targets) ∧ (∀ t, t ∈ all ↔ t ∈ made ∨ ∃ r ∈ rs, t ∈ r.targets)
  | [], made, all, h => by
    unfold chkR at h
    cases h
    exact ⟨fun r hr => (by cases hr), List.Pairwise.nil, fun t => by simp⟩
  | r :: rs, made, all, h => by
    unfold chkR at h
    split at h
    · cases h
    · rename_i h1
      split at h
      · rename_i h2
        obtain ⟨k1, k2⟩ := dupF_false (by simpa using h1)
        obtain ⟨j1, j2, j3⟩ := chkR_uniq ph h
        refine ⟨fun q hq => ?_, List.pairwise_cons.2 ⟨fun q hq t ht hm => (j1 q hq).1 t hm (List.mem_append_right _ ht), j2⟩, fun t => ?_⟩
        · rcases List.mem_cons.1 hq with rfl | hq
          · exact ⟨k1, k2, h2⟩
          · exact ⟨fun t ht hm => (j1 q hq).1 t ht (List.mem_append_left _ hm), (j1 q hq).2⟩
        · rw [j3 t]
          simp only [List.mem_append, List.mem_cons, exists_eq_or_imp, or_assoc]
      · cases h
theorem chk_uniq {m : Mk} (h : chkF m = 0) : Uniq m ∧ (∀ r ∈ m.rules, r.targets.Nodup) ∧ (∀ r ∈ m.rules, ruleOk m.phony r = true) := by
  unfold chkF at h
  split at h
  · simp at h
  · rename_i all hc
    obtain ⟨h1, h2, _⟩ := chkR_uniq m.phony hc
    refine ⟨fun r hr q hq t ht hm => ?_, fun r hr => (h1 r hr).2.1, fun r hr => (h1 r hr).2.2⟩
    obtain ⟨i, hi, e1⟩ := List.getElem_of_mem hr
    obtain ⟨j, hj, e2⟩ := List.getElem_of_mem hq
    have hp := List.pairwise_iff_getElem.1 h2
    rcases Nat.lt_trichotomy i j with hlt | heq | hgt
    · have := hp i j hi hj hlt t (by rw [e1]; exact ht)
      rw [e2] at this
      exact absurd hm this
    · subst heq; rw [← e1, ← e2]
    · have := hp j i hj hi hgt t (by rw [e2]; exact hm)
      rw [e1] at this
      exact absurd ht this
theorem ord_need {m : Mk} {l : List File} {out : List Grp} (h : GOk m l out) {i : Nat} {g : Grp} {n : Str} (hi : out[i]? = some g) (hn : n ∈ g.needs) : (∃ k, k < i ∧ makerF out n = some k) ∨ (makerF out n = none ∧ isF l n = true) := by
  rcases h.tp i g hi n hn with ⟨k, q, h1, h2, h3⟩ | ⟨h1, h2⟩
  · exact .inl ⟨k, h1, makerF_at h.ds h2 h3⟩
  · refine .inr ⟨?_, h2⟩
    cases hm : makerF out n with
    | none => rfl
    | some k =>
      exfalso
      obtain ⟨q, hq, hq2⟩ := makerF_some hm
      obtain ⟨n0, hr⟩ := h.rl q (List.mem_of_getElem? hq)
      rcases ruleF_some hr with ⟨r, hr2, rfl⟩ | ⟨_, r, _, hs, rfl, _⟩
      · rw [groupF_tgt] at hq2
        unfold ruleF at h1
        split at h1
        · cases h1
        · rename_i he
          exact explF_none he r (explF_some hr2).1 hq2
      · have hq2 : n ∈ tgtOf r n0 _ := hq2
        unfold tgtOf at hq2
        rw [if_neg (stemL_ne hs), List.mem_singleton] at hq2
        subst hq2
        rw [hr] at h1
        cases h1
theorem groupsF_err {m : Mk} {l : List File} {goal : Str} (h : (groupsF m l goal).2 ≠ 0) : (groupsF m l goal).1 = [] := by
  unfold groupsF at h ⊢
  split
  · rfl
  · split
    · rfl
    · rename_i h1 h2
      rw [if_neg h1, if_neg h2] at h
      exact absurd rfl h
theorem parse_short {s : Str} (h : (parseF s).2 = 0) : s.length ≤ 600 ∧ chkF (parseF s).1 = 0 := by
  unfold parseF at h ⊢
  by_cases h1 : 600 < s.length
  · rw [if_pos h1] at h
    cases h
  · refine ⟨by omega, ?_⟩
    rw [if_neg h1] at h ⊢
    by_cases h2 : (foldF (splB 10 s) mk0).2 ≠ 0
    · rw [if_pos h2] at h
      exact absurd h h2
    · rw [if_neg h2] at h ⊢
      by_cases h3 : chkF (foldF (splB 10 s) mk0).1 = 0
      · rw [if_pos h3] at h ⊢
        exact h3
      · rw [if_neg h3] at h
        exact absurd h h3
abbrev madeT : Str := [98, 32, 58, 32, 97, 10, 9, 99, 111, 112, 121, 32, 97, 32, 98, 10]
abbrev madeC : Str := [99, 111, 112, 121, 32, 97, 32, 98]
abbrev madeM : Mk := ⟨[], [⟨[[98]], [[97]], [madeC]⟩], []⟩
abbrev madeG : Grp := ⟨[[98]], [[97]], [madeC], false⟩
theorem made_parse : parseF madeT = (madeM, 0) := by decide +kernel
abbrev madeL : List File := [([97], [])]
theorem made_grps : groupsF madeM madeL [98] = ([madeG], 0) := by decide +kernel
theorem made_bd : GBd madeM madeL ∧ (nameB [98] = true → ∀ x ∈ candF madeM madeL [98], x.length ≤ 200) ∧ (candF madeM madeL [98]).length < 100 := by
  refine ⟨⟨by decide, by decide, by decide, by decide, ?_⟩, ?_, ?_⟩
  · exact List.pairwise_singleton _ _
  · intro _ x hx
    simp [candF, ndsOf] at hx
    rcases hx with rfl | rfl | rfl | rfl <;> decide
  · simp [candF, ndsOf]
set_option maxRecDepth 100000 in
set_option maxHeartbeats 4000000 in
theorem made_c {w : World} (hm : Ml w) : Calls Tryz.prog 17 #[] w fun e w' => e = .returned (.bool true) ∧ Ext w w' := by
  have H0 : Calls Tryz.prog 18 #[S madeT] w (PrsRes w (madeM, 0)) := by
    have := MkParse_c hm madeT (by decide)
    rwa [made_parse] at this
  have HM := Lib.hid hm
  clear hm
  go_enter Tryz.func17, Tryz.ntmps17
  go_wp2_with fail
  refine H0.mono ?_
  rintro e u1 ⟨v, rs, rfl, hR, hu⟩
  have M1 : MakeR u1 v rs madeM := hR No u1 (fun b hb => hb.elim) (Only.refl _ _)
  obtain ⟨g7, hg7⟩ : ∃ g, g = u1.heap.size := ⟨_, rfl⟩
  obtain ⟨w1, hw1⟩ : ∃ u, u = u1.alloc (.cells #[.slice v.vA 0 v.vc, .slice v.rA 1 v.rc, .slice v.pA 0 v.pc] makeT) := ⟨_, rfl⟩
  have x1 : Ext u1 w1 := by rw [hw1]; exact (Only.refl No u1).alloc _
  have C1 : Cs w1 g7 makeT #[.slice v.vA 0 v.vc, .slice v.rA 1 v.rc, .slice v.pA 0 v.pc] := by rw [hw1, hg7]; exact Cs.new _ _ _
  have X1 : Hid (Ext w w1) := hu.then_ext x1
  have M2 := Lib.hid (M1.ext x1)
  have k0 : w1.cell? ⟨g7, 0, none⟩ = some (.slice v.vA 0 v.vc) := C1.cell 0
  have k1 : w1.cell? ⟨g7, 1, none⟩ = some (.slice v.rA 1 v.rc) := C1.cell 1
  have k2 : w1.cell? ⟨g7, 2, none⟩ = some (.slice v.pA 0 v.pc) := C1.cell 2
  clear x1 C1 M1 hu hR H0
  go_upto_region 2 with fail
  rw [← hw1, ← hg7]
  clear hw1 hg7
  rw [errV_zero]
  have hmd := made_bd
  go_wp2_with fail
  have x2 : Ext w1 (w1.alloc (.cells #[S [97], S []] 75)) := (Only.refl No w1).alloc _
  refine (Of_c (lc := 1) ((HM.out.ext X1.out).ext x2) (M2.out.ext x2) (show SlR fileF _ _ madeL.length madeL from SlR.one fileF w1 _ (([97], []) : File) rfl) hmd.1 [98] (by decide) hmd.2.1 hmd.2.2).mono ?_
  rw [made_grps]
  rintro e u4 ⟨A, c, os, rfl, hG, hu, _⟩
  have X4 : Hid (Ext w u4) := (X1.out.then_ext x2).then_ext hu
  clear hG hu x2 k0 k1 k2 hmd
  rw [errV_zero]
  go_wp2_with fail
  go_ret
  exact ⟨rfl, X4.out⟩
abbrev Edge := Nat × Nat
inductive Conn (E : List Edge) (x : Nat) : Nat → Prop
  | here : Conn E x x
  | down {y z : Nat} : Conn E x y → (y, z) ∈ E → Conn E x z
  | up {y z : Nat} : Conn E x y → (z, y) ∈ E → Conn E x z
section
variable {E F : List Edge}
theorem Conn.trans {x y z : Nat} (h : Conn E x y) (k : Conn E y z) : Conn E x z := by
  induction k with
  | here => exact h
  | down _ e ih => exact ih.down e
  | up _ e ih => exact ih.up e
theorem Conn.symm {x y : Nat} (h : Conn E x y) : Conn E y x := by
  induction h with
  | here => exact .here
  | down _ e ih => exact (Conn.here.up e).trans ih
  | up _ e ih => exact (Conn.here.down e).trans ih
theorem Conn.more {x y : Nat} (h : Conn E x y) (hs : ∀ e ∈ E, e ∈ F) : Conn F x y := by
  induction h with
  | here => exact .here
  | down _ e ih => exact ih.down (hs _ e)
  | up _ e ih => exact ih.up (hs _ e)
end
def Least (E : List Edge) (x m : Nat) : Prop := Conn E x m ∧ ∀ y, Conn E x y → m ≤ y
theorem Least.uniq {E : List Edge} {x m k : Nat} (h : Least E x m) (h' : Least E x k) : m = k := Nat.le_antisymm (h.2 k h'.1) (h'.2 m h.1)
def rootF (up : List Nat) : Nat → Nat → Nat
  | 0, i => i
  | f + 1, i => if up.getD i 0 = i then i else rootF up f (up.getD i 0)
def rootA (up : List Nat) (i : Nat) : Nat := rootF up i i
def uniF (up : List Nat) (e : Edge) : List Nat := up.set (max (rootA up e.1) (rootA up e.2)) (min (rootA up e.1) (rootA up e.2))
def Low (up : List Nat) : Prop := ∀ i, i < up.length → up.getD i 0 ≤ i
theorem rootF_enough {up : List Nat} (h : Low up) : ∀ (f i : Nat), i ≤ f → i < up.length → rootF up f i = rootF up i i ∧ rootF up f i ≤ i ∧ up.getD (rootF up f i) 0 = rootF up f i
  | 0, i, hi, hl => by
    obtain rfl : i = 0 := by omega
    have := h 0 hl
    exact ⟨rfl, Nat.le_refl _, by show up.getD 0 0 = 0; omega⟩
  | f + 1, i, hi, hl => by
    have h1 := h i hl
    by_cases he : up.getD i 0 = i
    · have e1 : rootF up (f + 1) i = i := by unfold rootF; rw [if_pos he]
      have e2 : rootF up i i = i := by
        cases i with
        | zero => rfl
        | succ j => unfold rootF; rw [if_pos he]
      rw [e1, e2]
      exact ⟨rfl, Nat.le_refl _, he⟩
    · have e1 : rootF up (f + 1) i = rootF up f (up.getD i 0) := by conv => lhs; unfold rootF
                                                                    rw [if_neg he]
      obtain ⟨k1, k2, k3⟩ := rootF_enough h f (up.getD i 0) (by omega) (by omega)
      cases i with
      | zero => omega
      | succ j =>
        have e2 : rootF up (j + 1) (j + 1) = rootF up j (up.getD (j + 1) 0) := by conv => lhs; unfold rootF
                                                                                  rw [if_neg he]
        obtain ⟨j1, _, _⟩ := rootF_enough h j (up.getD (j + 1) 0) (by omega) (by omega)
        rw [e1, e2, k1, j1]
        rw [k1] at k2 k3
        exact ⟨rfl, by omega, k3⟩
  termination_by f => f
theorem rootA_le {up : List Nat} (h : Low up) {i : Nat} (hl : i < up.length) : rootA up i ≤ i := (rootF_enough h i i (Nat.le_refl _) hl).2.1
theorem rootA_fix {up : List Nat} (h : Low up) {i : Nat} (hl : i < up.length) : up.getD (rootA up i) 0 = rootA up i := (rootF_enough h i i (Nat.le_refl _) hl).2.2
theorem rootA_step {up : List Nat} (h : Low up) {i : Nat} (hl : i < up.length) : rootA up i = if up.getD i 0 = i then i else rootA up (up.getD i 0) := by
  have h1 := h i hl
  unfold rootA
  cases i with
  | zero =>
    have : up.getD 0 0 = 0 := by omega
    rw [if_pos this]; rfl
  | succ j =>
    conv => lhs; unfold rootF
    by_cases he : up.getD (j + 1) 0 = j + 1
    · rw [if_pos he, if_pos he]
    · rw [if_neg he, if_neg he]
      exact (rootF_enough h j (up.getD (j + 1) 0) (by omega) (by omega)).1
theorem rootA_of {up : List Nat} {i : Nat} (he : up.getD i 0 = i) : rootA up i = i := by
  unfold rootA
  cases i with
  | zero => rfl
  | succ j => unfold rootF; rw [if_pos he]
theorem rootA_root {up : List Nat} (h : Low up) {i : Nat} (hl : i < up.length) : rootA up (rootA up i) = rootA up i := rootA_of (rootA_fix h hl)
theorem getD_set {up : List Nat} {a b i : Nat} (ha : a < up.length) : (up.set a b).getD i 0 = if i = a then b else up.getD i 0 := by
  rw [List.getD_eq_getElem?_getD, List.getD_eq_getElem?_getD, List.getElem?_set]
  by_cases h : a = i
  · subst h; simp [ha]
  · rw [if_neg h, if_neg (fun e => h e.symm)]
theorem rootA_hang {up : List Nat} (h : Low up) {a b : Nat} (ha : a < up.length) (hb : b < up.length) (ra : up.getD a 0 = a) (rb : up.getD b 0 = b) (hab : a ≤ b) :
    Low (up.set b a) ∧ ∀ i, i < up.length → rootA (up.set b a) i = if rootA up i = b then a else rootA up i := by
  have hL : Low (up.set b a) := fun i hi => by
    rw [getD_set hb]
    rw [List.length_set] at hi
    split
    · omega
    · exact h i hi
  refine ⟨hL, fun i => ?_⟩
  induction i using Nat.strongRecOn with
  | ind i ih =>
    intro hi
    have hi' : i < (up.set b a).length := by rw [List.length_set]; exact hi
    by_cases he : up.getD i 0 = i
    · rw [rootA_of he]
      by_cases hib : i = b
      · subst hib
        rw [if_pos rfl, rootA_step hL hi', getD_set hb, if_pos rfl]
        split
        · omega
        · rename_i hne
          rw [ih a (by omega) ha, rootA_of ra]
          split <;> omega
      · rw [if_neg hib]
        refine rootA_of ?_
        rw [getD_set hb, if_neg hib]; exact he
    · have hlt : up.getD i 0 < i := Nat.lt_of_le_of_ne (h i hi) he
      have hib : i ≠ b := by rintro rfl; exact he rb
      rw [rootA_step hL hi', getD_set hb, if_neg hib, if_neg he, ih _ hlt (by omega), rootA_step h hi, if_neg he]
structure UpOk (E : List Edge) (up : List Nat) : Prop where
  low : Low up
  edge : ∀ e ∈ E, e.1 < up.length ∧ e.2 < up.length
  iff : ∀ x y, x < up.length → y < up.length → (rootA up x = rootA up y ↔ Conn E x y)
theorem Conn.lt {E : List Edge} {n : Nat} (he : ∀ e ∈ E, e.1 < n ∧ e.2 < n) {x y : Nat} (h : Conn E x y) (hx : x < n) : y < n := by
  induction h with
  | here => exact hx
  | down _ e _ => exact (he _ e).2
  | up _ e _ => exact (he _ e).1
theorem UpOk.least {E : List Edge} {up : List Nat} (h : UpOk E up) {x : Nat} (hx : x < up.length) : Least E x (rootA up x) := by
  have hr : rootA up x < up.length := Nat.lt_of_le_of_lt (rootA_le h.low hx) hx
  refine ⟨(h.iff x _ hx hr).1 (rootA_root h.low hx).symm, fun y hy => ?_⟩
  have hyl := hy.lt h.edge hx
  rw [(h.iff x y hx hyl).2 hy]
  exact rootA_le h.low hyl
theorem UpOk.new {E : List Edge} {up : List Nat} (h : UpOk E up) : UpOk E (up ++ [up.length]) := by
  have hget : ∀ i, i < up.length → (up ++ [up.length]).getD i 0 = up.getD i 0 := fun i hi => by
    rw [List.getD_eq_getElem?_getD, List.getD_eq_getElem?_getD, List.getElem?_append_left hi]
  have hlast : (up ++ [up.length]).getD up.length 0 = up.length := by simp [List.getD_eq_getElem?_getD]
  have hL : Low (up ++ [up.length]) := fun i hi => by
    rw [List.length_append, List.length_singleton] at hi
    rcases Nat.lt_or_ge i up.length with hlt | hge
    · rw [hget i hlt]; exact h.low i hlt
    · obtain rfl : i = up.length := by omega
      rw [hlast]; exact Nat.le_refl _
  have hroot : ∀ i, i < up.length → rootA (up ++ [up.length]) i = rootA up i := by
    intro i
    induction i using Nat.strongRecOn with
    | ind i ih =>
      intro hi
      have hi' : i < (up ++ [up.length]).length := by rw [List.length_append]; omega
      rw [rootA_step hL hi', rootA_step h.low hi, hget i hi]
      by_cases he : up.getD i 0 = i
      · rw [if_pos he, if_pos he]
      · rw [if_neg he, if_neg he]
        have := h.low i hi
        exact ih _ (by omega) (by omega)
  have hlr : rootA (up ++ [up.length]) up.length = up.length := rootA_of hlast
  refine ⟨hL, fun e he => by have := h.edge e he; rw [List.length_append]; omega, fun x y hx hy => ?_⟩
  rw [List.length_append, List.length_singleton] at hx hy
  rcases Nat.lt_or_ge x up.length with hxl | hxl
  · rcases Nat.lt_or_ge y up.length with hyl | hyl
    · rw [hroot x hxl, hroot y hyl]; exact h.iff x y hxl hyl
    · obtain rfl : y = up.length := by omega
      rw [hroot x hxl, hlr]
      constructor
      · intro e; have := rootA_le h.low hxl; omega
      · intro c; have := c.lt h.edge hxl; omega
  · obtain rfl : x = up.length := by omega
    rcases Nat.lt_or_ge y up.length with hyl | hyl
    · rw [hroot y hyl, hlr]
      constructor
      · intro e; have := rootA_le h.low hyl; omega
      · intro c; have := c.symm.lt h.edge hyl; omega
    · obtain rfl : y = up.length := by omega
      exact ⟨fun _ => .here, fun _ => rfl⟩
theorem Conn.one {E : List Edge} {e : Edge} {x y : Nat} (h : Conn (E ++ [e]) x y) : Conn E x y ∨ (Conn E x e.1 ∧ Conn E e.2 y) ∨ (Conn E x e.2 ∧ Conn E e.1 y) := by
  induction h with
  | here => exact .inl .here
  | down _ he ih =>
    rcases List.mem_append.1 he with he | he
    · rcases ih with h1 | ⟨h1, h2⟩ | ⟨h1, h2⟩
      · exact .inl (h1.down he)
      · exact .inr (.inl ⟨h1, h2.down he⟩)
      · exact .inr (.inr ⟨h1, h2.down he⟩)
    · have he := List.mem_singleton.1 he
      subst he
      rcases ih with h1 | ⟨h1, h2⟩ | ⟨h1, h2⟩
      · exact .inr (.inl ⟨h1, .here⟩)
      · exact .inr (.inl ⟨h1, .here⟩)
      · exact .inl h1
  | up _ he ih =>
    rcases List.mem_append.1 he with he | he
    · rcases ih with h1 | ⟨h1, h2⟩ | ⟨h1, h2⟩
      · exact .inl (h1.up he)
      · exact .inr (.inl ⟨h1, h2.up he⟩)
      · exact .inr (.inr ⟨h1, h2.up he⟩)
    · have he := List.mem_singleton.1 he
      subst he
      rcases ih with h1 | ⟨h1, h2⟩ | ⟨h1, h2⟩
      · exact .inr (.inr ⟨h1, .here⟩)
      · exact .inl h1
      · exact .inr (.inr ⟨h1, .here⟩)
theorem UpOk.uni {E : List Edge} {up : List Nat} (h : UpOk E up) {e : Edge} (h1 : e.1 < up.length) (h2 : e.2 < up.length) : UpOk (E ++ [e]) (uniF up e) := by
  have l1 := rootA_le h.low h1
  have l2 := rootA_le h.low h2
  have f1 := rootA_fix h.low h1
  have f2 := rootA_fix h.low h2
  have mlt : max (rootA up e.1) (rootA up e.2) < up.length := by omega
  have key := rootA_hang h.low (a := min (rootA up e.1) (rootA up e.2)) (b := max (rootA up e.1) (rootA up e.2)) (by omega) mlt
    (by rcases Nat.le_total (rootA up e.1) (rootA up e.2) with hl | hl
        · rw [Nat.min_eq_left hl]; exact f1
        · rw [Nat.min_eq_right hl]; exact f2)
    (by rcases Nat.le_total (rootA up e.1) (rootA up e.2) with hl | hl
        · rw [Nat.max_eq_right hl]; exact f2
        · rw [Nat.max_eq_left hl]; exact f1) (by omega)
  have hmore : ∀ {x y}, Conn E x y → Conn (E ++ [e]) x y := fun h => h.more fun _ hm => List.mem_append_left _ hm
  refine ⟨key.1, fun d hd => ?_, fun x y hx hy => ?_⟩
  · unfold uniF
    rw [List.length_set]
    rcases List.mem_append.1 hd with hd | hd
    · exact h.edge d hd
    · obtain rfl := List.mem_singleton.1 hd
      exact ⟨h1, h2⟩
  · unfold uniF at hx hy
    rw [List.length_set] at hx hy
    have c1 : ∀ z, z < up.length → (rootA up z = rootA up e.1 ↔ Conn E z e.1) := fun z hz => h.iff z e.1 hz h1
    have c2 : ∀ z, z < up.length → (rootA up z = rootA up e.2 ↔ Conn E z e.2) := fun z hz => h.iff z e.2 hz h2
    have hnew : ∀ z, z < up.length → rootA (uniF up e) z = if rootA up z = rootA up e.1 ∨ rootA up z = rootA up e.2 then min (rootA up e.1) (rootA up e.2) else rootA up z := fun z hz => by
      show rootA (up.set _ _) z = _
      rw [key.2 z hz]
      rcases Nat.le_total (rootA up e.1) (rootA up e.2) with hl | hl
      · rw [Nat.max_eq_right hl, Nat.min_eq_left hl]
        by_cases ha : rootA up z = rootA up e.2
        · rw [if_pos ha, if_pos (.inr ha)]
        · rw [if_neg ha]
          by_cases hb : rootA up z = rootA up e.1
          · rw [if_pos (.inl hb)]; exact hb
          · rw [if_neg (fun hc => hc.elim hb ha)]
      · rw [Nat.max_eq_left hl, Nat.min_eq_right hl]
        by_cases ha : rootA up z = rootA up e.1
        · rw [if_pos ha, if_pos (.inl ha)]
        · rw [if_neg ha]
          by_cases hb : rootA up z = rootA up e.2
          · rw [if_pos (.inr hb)]; exact hb
          · rw [if_neg (fun hc => hc.elim ha hb)]
    rw [hnew x hx, hnew y hy]
    have hmin : min (rootA up e.1) (rootA up e.2) = rootA up e.1 ∨ min (rootA up e.1) (rootA up e.2) = rootA up e.2 := by omega
    have bridge : ∀ z, (rootA up z = rootA up e.1 ∨ rootA up z = rootA up e.2) → z < up.length → Conn (E ++ [e]) z e.1 := fun z hz hl => by
      rcases hz with hz | hz
      · exact hmore ((c1 z hl).1 hz)
      · exact (hmore ((c2 z hl).1 hz)).up (by simp)
    by_cases hX : rootA up x = rootA up e.1 ∨ rootA up x = rootA up e.2
    · by_cases hY : rootA up y = rootA up e.1 ∨ rootA up y = rootA up e.2
      · rw [if_pos hX, if_pos hY]
        exact ⟨fun _ => (bridge x hX hx).trans (bridge y hY hy).symm, fun _ => rfl⟩
      · rw [if_pos hX, if_neg hY]
        refine ⟨fun hc => ?_, fun hc => ?_⟩
        · exfalso
          rcases hmin with hm | hm
          · exact hY (.inl (hc.symm.trans hm))
          · exact hY (.inr (hc.symm.trans hm))
        · exfalso
          rcases hc.one with k | ⟨_, k⟩ | ⟨_, k⟩
          · have := (h.iff x y hx hy).2 k
            rcases hX with hX | hX
            · exact hY (.inl (this.symm.trans hX))
            · exact hY (.inr (this.symm.trans hX))
          · exact hY (.inr ((c2 y hy).2 k.symm))
          · exact hY (.inl ((c1 y hy).2 k.symm))
    · by_cases hY : rootA up y = rootA up e.1 ∨ rootA up y = rootA up e.2
      · rw [if_neg hX, if_pos hY]
        refine ⟨fun hc => ?_, fun hc => ?_⟩
        · exfalso
          rcases hmin with hm | hm
          · exact hX (.inl (hc.trans hm))
          · exact hX (.inr (hc.trans hm))
        · exfalso
          rcases hc.one with k | ⟨k, _⟩ | ⟨k, _⟩
          · have := (h.iff x y hx hy).2 k
            rcases hY with hY | hY
            · exact hX (.inl (this.trans hY))
            · exact hX (.inr (this.trans hY))
          · exact hX (.inl ((c1 x hx).2 k))
          · exact hX (.inr ((c2 x hx).2 k))
      · rw [if_neg hX, if_neg hY]
        refine ⟨fun hc => hmore ((h.iff x y hx hy).1 hc), fun hc => ?_⟩
        rcases hc.one with k | ⟨k, _⟩ | ⟨k, _⟩
        · exact (h.iff x y hx hy).2 k
        · exact absurd (.inl ((c1 x hx).2 k)) hX
        · exact absurd (.inr ((c2 x hx).2 k)) hX
abbrev stB (st : List Bool) (i : Nat) : Bool := st.getD i false
def edgeF (gs : List Grp) (st : List Bool) (i : Nat) (n : Str) : Option Edge :=
  match makerF (gs.take i) n with
  | some k => if (stB st i && stB st k) = true then some (i, k) else none
  | none => none
def ndsAt (gs : List Grp) (i : Nat) : List Str := match gs[i]? with
  | some g => g.needs
  | none => []
def edgesAt (gs : List Grp) (st : List Bool) (i : Nat) : List Edge := (ndsAt gs i).filterMap (edgeF gs st i)
def edgesTo (gs : List Grp) (st : List Bool) (i : Nat) : List Edge := (List.range i).flatMap (edgesAt gs st)
abbrev edgesF (gs : List Grp) (st : List Bool) : List Edge := edgesTo gs st gs.length
def unitAt (n : Nat) (st : List Bool) (r : Nat → Nat) (i : Nat) : List Nat := (List.range n).filter fun k => stB st k && decide (r k = i)
def nphB (gs : List Grp) (k : Nat) : Bool := match gs[k]? with
  | some g => !g.phony
  | none => false
def realB (gs : List Grp) (u : List Nat) : Bool := u.any (nphB gs)
def unit1 (gs : List Grp) (st : List Bool) (r : Nat → Nat) (i : Nat) : Option (List Nat) := if realB gs (unitAt gs.length st r i) = true then some (unitAt gs.length st r i) else none
def unitsTo (gs : List Grp) (st : List Bool) (r : Nat → Nat) (i : Nat) : List (List Nat) := (List.range i).filterMap (unit1 gs st r)
abbrev unitsF (gs : List Grp) (st : List Bool) (r : Nat → Nat) : List (List Nat) := unitsTo gs st r gs.length
theorem edgesTo_succ (gs : List Grp) (st : List Bool) (i : Nat) : edgesTo gs st (i + 1) = edgesTo gs st i ++ edgesAt gs st i := by
  unfold edgesTo
  rw [List.range_succ, List.flatMap_append]
  simp
theorem unitsTo_succ (gs : List Grp) (st : List Bool) (r : Nat → Nat) (i : Nat) : unitsTo gs st r (i + 1) = unitsTo gs st r i ++ (unit1 gs st r i).toList := by
  unfold unitsTo
  rw [List.range_succ, List.filterMap_append]
  congr 1
theorem makerF_lt {out : List Grp} {n : Str} {k : Nat} (h : makerF out n = some k) : k < out.length := by
  unfold makerF at h
  obtain ⟨hk, _⟩ := List.findIdx?_eq_some_iff_getElem.1 h
  exact hk
theorem edge_ok {gs : List Grp} {st : List Bool} {i : Nat} {n : Str} {e : Edge} (h : edgeF gs st i n = some e) : e.1 = i ∧ e.2 < i ∧ stB st e.1 = true ∧ stB st e.2 = true := by
  unfold edgeF at h
  split at h
  · rename_i k hk
    split at h
    · rename_i hs
      cases h
      rw [Bool.and_eq_true] at hs
      have := makerF_lt hk
      rw [List.length_take] at this
      exact ⟨rfl, by show k < i; omega, hs.1, hs.2⟩
    · cases h
  · cases h
theorem edgesTo_ok {gs : List Grp} {st : List Bool} {i : Nat} : ∀ e ∈ edgesTo gs st i, e.1 < i ∧ e.2 < e.1 ∧ stB st e.1 = true ∧ stB st e.2 = true := by
  intro e he
  unfold edgesTo at he
  obtain ⟨j, hj, he⟩ := List.mem_flatMap.1 he
  unfold edgesAt at he
  obtain ⟨n, _, he⟩ := List.mem_filterMap.1 he
  obtain ⟨h1, h2, h3, h4⟩ := edge_ok he
  have := List.mem_range.1 hj
  exact ⟨by omega, by omega, h3, h4⟩
theorem Conn.stale {E : List Edge} {p : Nat → Bool} (hp : ∀ e ∈ E, p e.1 = true ∧ p e.2 = true) {x y : Nat} (h : Conn E x y) : x = y ∨ p y = true := by
  induction h with
  | here => exact .inl rfl
  | down _ e _ => exact .inr (hp _ e).2
  | up _ e _ => exact .inr (hp _ e).1
def UpI (n i : Nat) (E : List Edge) (up : List Nat) : Prop := ∃ U : List Nat, U.length = i ∧ i ≤ n ∧ up = U ++ List.replicate (n - i) 0 ∧ UpOk E U
theorem UpI.start (n : Nat) : UpI n 0 [] (List.replicate n 0) :=
  ⟨[], rfl, Nat.zero_le _, by simp, ⟨fun i hi => absurd hi (Nat.not_lt_zero i), (fun e he => by cases he), fun x y hx _ => absurd hx (Nat.not_lt_zero x)⟩⟩
theorem UpI.len {n i : Nat} {E : List Edge} {up : List Nat} (h : UpI n i E up) : up.length = n := by
  obtain ⟨U, h1, h2, rfl, _⟩ := h
  rw [List.length_append, List.length_replicate]
  omega
theorem pad_get {U : List Nat} {k j : Nat} (h : j < U.length) : (U ++ List.replicate k 0).getD j 0 = U.getD j 0 := by
  rw [List.getD_eq_getElem?_getD, List.getD_eq_getElem?_getD, List.getElem?_append_left h]
theorem pad_low {U : List Nat} {k : Nat} (h : Low U) : Low (U ++ List.replicate k 0) := by
  intro j hj
  rcases Nat.lt_or_ge j U.length with hlt | hge
  · rw [pad_get hlt]; exact h j hlt
  · rw [List.getD_eq_getElem?_getD, List.getElem?_append_right hge, List.getElem?_replicate]
    split <;> exact Nat.zero_le _
theorem UpI.low {n i : Nat} {E : List Edge} {up : List Nat} (h : UpI n i E up) : Low up := by
  obtain ⟨U, h1, h2, rfl, h3⟩ := h
  exact pad_low h3.low
theorem pad_root {U : List Nat} {k : Nat} (h : Low U) : ∀ j, j < U.length → rootA (U ++ List.replicate k 0) j = rootA U j := by
  intro j
  induction j using Nat.strongRecOn with
  | ind j ih =>
    intro hj
    rw [rootA_step (pad_low h) (by rw [List.length_append]; omega), rootA_step h hj, pad_get hj]
    by_cases he : U.getD j 0 = j
    · rw [if_pos he, if_pos he]
    · rw [if_neg he, if_neg he]
      have := h j hj
      exact ih _ (by omega) (by omega)
theorem UpI.new {n i : Nat} {E : List Edge} {up : List Nat} (h : UpI n i E up) (hi : i < n) : UpI n (i + 1) E (up.set i i) := by
  obtain ⟨U, rfl, h2, rfl, h3⟩ := h
  refine ⟨U ++ [U.length], by simp, hi, ?_, h3.new⟩
  have : List.replicate (n - U.length) 0 = 0 :: List.replicate (n - (U.length + 1)) 0 := by
    rw [show n - U.length = (n - (U.length + 1)) + 1 by omega, List.replicate_succ]
  rw [this, List.set_append_right _ _ (Nat.le_refl _), Nat.sub_self]
  simp
theorem UpI.uni {n i : Nat} {E : List Edge} {up : List Nat} (h : UpI n i E up) {e : Edge} (h1 : e.1 < i) (h2 : e.2 < i) : UpI n i (E ++ [e]) (uniF up e) := by
  obtain ⟨U, rfl, h3, rfl, h4⟩ := h
  refine ⟨uniF U e, by unfold uniF; rw [List.length_set], h3, ?_, h4.uni h1 h2⟩
  unfold uniF
  rw [pad_root h4.low _ h1, pad_root h4.low _ h2]
  have l1 := rootA_le h4.low h1
  have l2 := rootA_le h4.low h2
  rw [List.set_append_left _ _ (by omega)]
theorem UpI.fin {n : Nat} {E : List Edge} {up : List Nat} (h : UpI n n E up) : UpOk E up := by
  obtain ⟨U, h1, h2, rfl, h3⟩ := h
  rw [Nat.sub_self, List.replicate_zero, List.append_nil]
  exact h3
def LstOk (E : List Edge) (n : Nat) (r : Nat → Nat) : Prop := ∀ k, k < n → Least E k (r k)
theorem LstOk.of_up {E : List Edge} {up : List Nat} {n : Nat} (h : UpOk E up) (hl : up.length = n) : LstOk E n (rootA up) := fun k hk => h.least (by omega)
theorem unit_mem {n : Nat} {st : List Bool} {r : Nat → Nat} {i k : Nat} : k ∈ unitAt n st r i ↔ k < n ∧ stB st k = true ∧ r k = i := by
  unfold unitAt
  rw [List.mem_filter, List.mem_range, Bool.and_eq_true, decide_eq_true_eq]
theorem unit_skip {gs : List Grp} {st : List Bool} {r : Nat → Nat} (h : LstOk (edgesF gs st) gs.length r) {i : Nat} (hs : stB st i = false ∨ r i ≠ i) : unitAt gs.length st r i = [] := by
  refine List.eq_nil_iff_forall_not_mem.2 fun k hk => ?_
  obtain ⟨h1, h2, rfl⟩ := unit_mem.1 hk
  have hc := (h k h1).1
  have hp : ∀ e ∈ edgesF gs st, stB st e.1 = true ∧ stB st e.2 = true := fun e he => (edgesTo_ok e he).2.2
  have hrl : r k < gs.length := hc.lt (fun e he => by have := edgesTo_ok e he; omega) h1
  rcases hs with hs | hs
  · rcases hc.stale hp with e | e
    · rw [← e, h2] at hs; cases hs
    · rw [e] at hs; cases hs
  · refine hs ?_
    have a1 := h (r k) hrl
    have a2 : Least (edgesF gs st) (r k) (r k) := ⟨.here, fun y hy => (h k h1).2 y (hc.trans hy)⟩
    exact a1.uniq a2
theorem unit1_skip {gs : List Grp} {st : List Bool} {r : Nat → Nat} (h : LstOk (edgesF gs st) gs.length r) {i : Nat} (hs : stB st i = false ∨ r i ≠ i) : unit1 gs st r i = none := by
  unfold unit1
  rw [unit_skip h hs]
  rfl
theorem unit1_some {gs : List Grp} {st : List Bool} {r : Nat → Nat} {i : Nat} {u : List Nat} (h : unit1 gs st r i = some u) : u = unitAt gs.length st r i ∧ realB gs u = true := by
  unfold unit1 at h
  split at h
  · rename_i h1
    cases h
    exact ⟨rfl, h1⟩
  · cases h
end Go.Proofs.YtnhaekifcieeoaaGreatDoor
