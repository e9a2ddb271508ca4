/- Put together: StR. -/
import Derived.Test.YtaphmmobmadfoaaMc31
/- The reference's Commit. -/
namespace Go.Proofs.Ytaphmmobmadfoaa
open Go Go.RowKit
abbrev rsT : TypeId := 38
/-- The document's commit. -/
def rcF (rows : List Ch) (used many : Nat) (c : List Ch) : (List Ch × Nat) × Int :=
  if 40 < c.length then ((rows, used), 2)
  else if chkA c ≠ 0 then ((rows, used), chkA c)
  else if manyB (applyL rows c) = true ∨ many < c.length + 1 then ((rows, used), 10)
  else ((applyL rows c, (if many - used < c.length + 1 then 0 else used) + c.length + 1), 0)
set_option maxRecDepth 100000 in
set_option maxHeartbeats 4000000 in
theorem RCommit_c {w : World} {g : Nat} {rA : Option Addr} {rcap used many : Nat} {rows : List Ch} (hcs : Cs w g rsT #[.slice rA rows.length rcap, .int .i64 (used : Nat), .int .i64 (many : Nat)]) (hsl : SlR chF w rA rows.length rows) (hg : GoodR rows) (hrn : rows.length ≤ 1000)
    (hum : used ≤ many ∧ many ≤ 1000) {A : Option Addr} {n cap : Nat} {c : List Ch} (hc : SlR chF w A n c) (hn : n ≤ 1000000) (hcb : ∀ x ∈ c, x.1.length ≤ 1000 ∧ x.2.1.length ≤ 1000) :
    Calls Try.prog 13 #[pt g, .slice A n cap] w fun e w' => e = .returned (.int .i64 (rcF rows used many c).2) ∧
      ∃ A' c', Cs w' g rsT #[.slice A' (rcF rows used many c).1.1.length c', .int .i64 ((rcF rows used many c).1.2 : Nat), .int .i64 (many : Nat)] ∧ Only (fun b => b = g) w w' ∧ ((A' = rA ∧ c' = rcap ∧ (rcF rows used many c).1.1 = rows) ∨ ∃ w0, Ext w w0 ∧ Fresh chF 61 w w0 A' c' (rcF rows used many c).1.1 ∧ Only (fun b => b = g) w0 w') := by
  have HC0 := Lib.hid hcs
  have HS := Lib.hid hsl
  have HG := Lib.hid hg
  have HC := Lib.hid hc
  have HCB := Lib.hid hcb
  have HCn : Hid (c.length = n) := hc.1
  clear hcs hsl hg hc hcb
  by_cases h40 : 40 < n
  · have g1 : decide ((40 : Int) < (n : Int)) = true := decide_eq_true (by omega)
    have g1' : decide (40 < n) = true := decide_eq_true h40
    have hE : Hid (rcF rows used many c = ((rows, used), 2)) := by unfold Hid rcF; rw [if_pos (by rw [HCn.out]; exact h40)]
    go_enter Try.func13, Try.ntmps13
    go_wp2_with (first | ((first | refine Mix.wpList_guarded rfl ?_ | refine Mix.wp_still (by kernel_rfl) (by kernel_rfl) ?_); (repeat' (first | (refine Mix.lex_quiet0 rfl rfl rfl ?_; intro K hK; go_big_quiet_op; go_big_quiet_on) | (refine Mix.lex_quietG rfl rfl rfl (by with_reducible rfl) rfl rfl ?_; intro K hK; go_big_quiet_op; go_big_quiet_on) | ((first | refine Mix.lex_skipT rfl rfl rfl (by with_reducible rfl) ?_ | refine Mix.lex_skipF rfl rfl rfl (by with_reducible rfl) ?_ | refine Mix.lex_skipU rfl rfl rfl (by with_reducible rfl) ?_); simp only [Act.put, List.setIfInBounds_toArray, List.set_cons_succ, List.set_cons_zero]) | (refine Mix.lex_part rfl rfl rfl rfl (fun hq => ?_) (fun hq => ?_) <;> (fail_if_success (guard_hyp hq :ₛ true = true)) <;> (fail_if_success (guard_hyp hq :ₛ false = false)) <;> first | (exfalso; cases hq; done) | (exfalso; simp only [decide_eq_true_eq, decide_eq_false_iff_not, beq_iff_eq, beq_eq_false_iff_ne, ne_eq, Int.not_lt, Int.not_le] at hq; omega) | simp only [Act.put, List.setIfInBounds_toArray, List.set_cons_succ, List.set_cons_zero]))); all_goals (refine Mix.lex_nil ?_)))
    go_ret
    rw [hE.out]
    exact ⟨rfl, rA, rcap, HC0.out, Only.refl _ _, .inl ⟨rfl, rfl, rfl⟩⟩
  have g1 : decide ((40 : Int) < (n : Int)) = false := decide_eq_false (by omega)
  have g1' : decide (40 < n) = false := decide_eq_false h40
  go_enter Try.func13, Try.ntmps13
  go_wp2_with (first | ((first | refine Mix.wpList_guarded rfl ?_ | refine Mix.wp_still (by kernel_rfl) (by kernel_rfl) ?_); (repeat' (first | (refine Mix.lex_quiet0 rfl rfl rfl ?_; intro K hK; go_big_quiet_op; go_big_quiet_on) | (refine Mix.lex_quietG rfl rfl rfl (by with_reducible rfl) rfl rfl ?_; intro K hK; go_big_quiet_op; go_big_quiet_on) | ((first | refine Mix.lex_skipT rfl rfl rfl (by with_reducible rfl) ?_ | refine Mix.lex_skipF rfl rfl rfl (by with_reducible rfl) ?_ | refine Mix.lex_skipU rfl rfl rfl (by with_reducible rfl) ?_); simp only [Act.put, List.setIfInBounds_toArray, List.set_cons_succ, List.set_cons_zero]) | (refine Mix.lex_part rfl rfl rfl rfl (fun hq => ?_) (fun hq => ?_) <;> (fail_if_success (guard_hyp hq :ₛ true = true)) <;> (fail_if_success (guard_hyp hq :ₛ false = false)) <;> first | (exfalso; cases hq; done) | (exfalso; simp only [decide_eq_true_eq, decide_eq_false_iff_not, beq_iff_eq, beq_eq_false_iff_ne, ne_eq, Int.not_lt, Int.not_le] at hq; omega) | simp only [Act.put, List.setIfInBounds_toArray, List.set_cons_succ, List.set_cons_zero]))); all_goals (refine Mix.lex_nil ?_)))
  go_loopw [5] (fun i wr => ∃ j : Nat, j ≤ n ∧ i = .int .i64 j ∧ (∀ x ∈ c.take j, chBad x = 0) ∧ Ext w wr) (fun i _ => n - (intOf i).toNat)
  case atStart => exact ⟨0, Nat.zero_le _, rfl, fun x hx => by simp at hx, Only.refl _ _⟩
  case round =>
    obtain ⟨j, hj, rfl, hok, hx⟩ := hrel
    have XJ := Lib.hid hx
    have HOk := Lib.hid hok
    clear hx hok
    by_cases hlt : j < n
    · have glt : decide ((j : Int) < (n : Int)) = true := decide_eq_true (by omega)
      have glt' : decide (j < n) = true := decide_eq_true hlt
      obtain ⟨b, o, x, hAe, hyx, q0, q1, q2⟩ := chs_get HC.out hlt
      subst hAe
      have hxb := HCB.out _ (List.mem_of_getElem? hyx)
      have HDr : Hid (chkA c = if chBad x = 0 then chkA (c.drop (j + 1)) else chBad x) := by
        rw [Hid, chkA_drop c j HOk.out, drop_at hyx]; rfl
      have HTk : Hid (chBad x = 0 → ∀ y ∈ c.take (j + 1), chBad y = 0) := fun h0 y hy => by
        rw [List.take_add_one, hyx] at hy
        rcases List.mem_append.1 hy with hy | hy
        · exact HOk.out y hy
        · rw [show y = x by simpa using hy]; exact h0
      obtain ⟨key, val, gone⟩ := x
      dsimp only at hxb
      have r0 := q0 ⟨wr, XJ.out⟩
      have r1 := q1 ⟨wr, XJ.out⟩
      have r2 := q2 ⟨wr, XJ.out⟩
      dsimp only at r0 r1 r2
      clear q0 q1 q2
      have HK := Lib.hid (RFault_row (w := wr) (key, val, gone) (by show key.length ≤ 10000; omega) (by show val.length ≤ 1000000; omega))
      have hnn := chBad_nonneg (key, val, gone)
      obtain ⟨bad, hbad⟩ : ∃ x, x = chBad (key, val, gone) := ⟨_, rfl⟩
      rw [← hbad] at HK HDr HTk hnn
      clear hbad
      go_wp2_with (first | ((first | refine Mix.wpList_guarded rfl ?_ | refine Mix.wp_still (by kernel_rfl) (by kernel_rfl) ?_); (repeat' (first | (refine Mix.lex_quiet0 rfl rfl rfl ?_; intro K hK; go_big_quiet_op; go_big_quiet_on) | (refine Mix.lex_quietG rfl rfl rfl (by with_reducible rfl) rfl rfl ?_; intro K hK; go_big_quiet_op; go_big_quiet_on) | ((first | refine Mix.lex_skipT rfl rfl rfl (by with_reducible rfl) ?_ | refine Mix.lex_skipF rfl rfl rfl (by with_reducible rfl) ?_ | refine Mix.lex_skipU rfl rfl rfl (by with_reducible rfl) ?_); simp only [Act.put, List.setIfInBounds_toArray, List.set_cons_succ, List.set_cons_zero]) | (refine Mix.lex_part rfl rfl rfl rfl (fun hq => ?_) (fun hq => ?_) <;> (fail_if_success (guard_hyp hq :ₛ true = true)) <;> (fail_if_success (guard_hyp hq :ₛ false = false)) <;> first | (exfalso; cases hq; done) | (exfalso; simp only [decide_eq_true_eq, decide_eq_false_iff_not, beq_iff_eq, beq_eq_false_iff_ne, ne_eq, Int.not_lt, Int.not_le] at hq; omega) | simp only [Act.put, List.setIfInBounds_toArray, List.set_cons_succ, List.set_cons_zero]))); all_goals (refine Mix.lex_nil ?_)))
      refine HK.out.mono ?_
      rintro e w3 ⟨rfl, hu⟩
      have X3 := Lib.hid (XJ.out.then_ext hu)
      clear hu HK r0 r1 r2
      by_cases hb0 : bad = 0
      · have HT2 := Lib.hid (HTk.out hb0)
        subst hb0
        clear HDr HTk
        go_wp2_with (first | ((first | refine Mix.wpList_guarded rfl ?_ | refine Mix.wp_still (by kernel_rfl) (by kernel_rfl) ?_); (repeat' (first | (refine Mix.lex_quiet0 rfl rfl rfl ?_; intro K hK; go_big_quiet_op; go_big_quiet_on) | (refine Mix.lex_quietG rfl rfl rfl (by with_reducible rfl) rfl rfl ?_; intro K hK; go_big_quiet_op; go_big_quiet_on) | ((first | refine Mix.lex_skipT rfl rfl rfl (by with_reducible rfl) ?_ | refine Mix.lex_skipF rfl rfl rfl (by with_reducible rfl) ?_ | refine Mix.lex_skipU rfl rfl rfl (by with_reducible rfl) ?_); simp only [Act.put, List.setIfInBounds_toArray, List.set_cons_succ, List.set_cons_zero]) | (refine Mix.lex_part rfl rfl rfl rfl (fun hq => ?_) (fun hq => ?_) <;> (fail_if_success (guard_hyp hq :ₛ true = true)) <;> (fail_if_success (guard_hyp hq :ₛ false = false)) <;> first | (exfalso; cases hq; done) | (exfalso; simp only [decide_eq_true_eq, decide_eq_false_iff_not, beq_iff_eq, beq_eq_false_iff_ne, ne_eq, Int.not_lt, Int.not_le] at hq; omega) | simp only [Act.put, List.setIfInBounds_toArray, List.set_cons_succ, List.set_cons_zero]))); all_goals (refine Mix.lex_nil ?_)))
        go_roundw
        case rel => exact ⟨j + 1, by omega, by go_num, HT2.out, X3.out⟩
        case measure => simp [intOf]; omega
      · have HA : Hid (chkA c = bad) := HDr.out.trans (if_neg hb0)
        have k1 : decide ((0 : Int) < bad) = true := decide_eq_true (by omega)
        have hE : Hid (rcF rows used many c = ((rows, used), bad)) := by unfold Hid rcF; rw [if_neg (by rw [HCn.out]; exact h40), HA.out, if_pos hb0]
        clear HDr HTk
        go_wp2_with (first | ((first | refine Mix.wpList_guarded rfl ?_ | refine Mix.wp_still (by kernel_rfl) (by kernel_rfl) ?_); (repeat' (first | (refine Mix.lex_quiet0 rfl rfl rfl ?_; intro K hK; go_big_quiet_op; go_big_quiet_on) | (refine Mix.lex_quietG rfl rfl rfl (by with_reducible rfl) rfl rfl ?_; intro K hK; go_big_quiet_op; go_big_quiet_on) | ((first | refine Mix.lex_skipT rfl rfl rfl (by with_reducible rfl) ?_ | refine Mix.lex_skipF rfl rfl rfl (by with_reducible rfl) ?_ | refine Mix.lex_skipU rfl rfl rfl (by with_reducible rfl) ?_); simp only [Act.put, List.setIfInBounds_toArray, List.set_cons_succ, List.set_cons_zero]) | (refine Mix.lex_part rfl rfl rfl rfl (fun hq => ?_) (fun hq => ?_) <;> (fail_if_success (guard_hyp hq :ₛ true = true)) <;> (fail_if_success (guard_hyp hq :ₛ false = false)) <;> first | (exfalso; cases hq; done) | (exfalso; simp only [decide_eq_true_eq, decide_eq_false_iff_not, beq_iff_eq, beq_eq_false_iff_ne, ne_eq, Int.not_lt, Int.not_le] at hq; omega) | simp only [Act.put, List.setIfInBounds_toArray, List.set_cons_succ, List.set_cons_zero]))); all_goals (refine Mix.lex_nil ?_)))
        go_ret
        rw [hE.out]
        exact ⟨rfl, rA, rcap, HC0.out.keep X3.out id, Only.any X3.out, .inl ⟨rfl, rfl, rfl⟩⟩
    · obtain rfl : j = n := by omega
      have glt : decide ((j : Int) < (j : Int)) = false := decide_eq_false (by omega)
      have HAll : Hid (∀ x ∈ c, chBad x = 0) := by
        have := HOk.out
        rw [List.take_of_length_le (by rw [HCn.out]; exact Nat.le_refl _)] at this
        exact this
      have HCk : Hid (chkA c = 0) := by
        have := chkA_drop c c.length (by rw [List.take_length]; exact HAll.out)
        rw [Hid, this, List.drop_length]; rfl
      have HRc : Hid (rcF rows used many c = if manyB (applyL rows c) = true ∨ many < j + 1 then ((rows, used), 10) else ((applyL rows c, (if many - used < j + 1 then 0 else used) + j + 1), 0)) := by
        unfold Hid rcF
        rw [if_neg (by rw [HCn.out]; exact h40), HCk.out, if_neg (by simp), HCn.out]
      have C1 := HC0.out.keep XJ.out id
      have s0 : wr.cell? ⟨g, 0, none⟩ = some (.slice rA rows.length rcap) := C1.cell 0
      have hA := RApplied_c (w := wr) (c := rcap) (d := cap) (HS.out.ext XJ.out) (HC.out.ext XJ.out) (by omega) (by omega)
      clear HOk C1
      go_wp2_with (first | ((first | refine Mix.wpList_guarded rfl ?_ | refine Mix.wp_still (by kernel_rfl) (by kernel_rfl) ?_); (repeat' (first | (refine Mix.lex_quiet0 rfl rfl rfl ?_; intro K hK; go_big_quiet_op; go_big_quiet_on) | (refine Mix.lex_quietG rfl rfl rfl (by with_reducible rfl) rfl rfl ?_; intro K hK; go_big_quiet_op; go_big_quiet_on) | ((first | refine Mix.lex_skipT rfl rfl rfl (by with_reducible rfl) ?_ | refine Mix.lex_skipF rfl rfl rfl (by with_reducible rfl) ?_ | refine Mix.lex_skipU rfl rfl rfl (by with_reducible rfl) ?_); simp only [Act.put, List.setIfInBounds_toArray, List.set_cons_succ, List.set_cons_zero]) | (refine Mix.lex_part rfl rfl rfl rfl (fun hq => ?_) (fun hq => ?_) <;> (fail_if_success (guard_hyp hq :ₛ true = true)) <;> (fail_if_success (guard_hyp hq :ₛ false = false)) <;> first | (exfalso; cases hq; done) | (exfalso; simp only [decide_eq_true_eq, decide_eq_false_iff_not, beq_iff_eq, beq_eq_false_iff_ne, ne_eq, Int.not_lt, Int.not_le] at hq; omega) | simp only [Act.put, List.setIfInBounds_toArray, List.set_cons_succ, List.set_cons_zero]))); all_goals (refine Mix.lex_nil ?_)))
      refine hA.mono ?_
      rintro e w1 ⟨nA, nc, rfl, hF⟩
      have FR := Lib.hid (hF.from XJ.out)
      have X1 := Lib.hid (XJ.out.then_ext hF.ext)
      have HGd := Lib.hid (HG.out.apply HAll.out)
      have hrl : (applyL rows c).length ≤ 1040 := by have := applyL_len rows c; have := HCn.out; omega
      obtain ⟨rows', hrows⟩ : ∃ x, x = applyL rows c := ⟨_, rfl⟩
      rw [← hrows] at FR HGd HRc hrl ⊢
      have HMn : Hid (manyB rows' = (decide (20 < filesN rows') || decide (20 < rows'.length - filesN rows'))) := rfl
      clear hrows hF hA XJ s0
      go_wp2_with (first | ((first | refine Mix.wpList_guarded rfl ?_ | refine Mix.wp_still (by kernel_rfl) (by kernel_rfl) ?_); (repeat' (first | (refine Mix.lex_quiet0 rfl rfl rfl ?_; intro K hK; go_big_quiet_op; go_big_quiet_on) | (refine Mix.lex_quietG rfl rfl rfl (by with_reducible rfl) rfl rfl ?_; intro K hK; go_big_quiet_op; go_big_quiet_on) | ((first | refine Mix.lex_skipT rfl rfl rfl (by with_reducible rfl) ?_ | refine Mix.lex_skipF rfl rfl rfl (by with_reducible rfl) ?_ | refine Mix.lex_skipU rfl rfl rfl (by with_reducible rfl) ?_); simp only [Act.put, List.setIfInBounds_toArray, List.set_cons_succ, List.set_cons_zero]) | (refine Mix.lex_part rfl rfl rfl rfl (fun hq => ?_) (fun hq => ?_) <;> (fail_if_success (guard_hyp hq :ₛ true = true)) <;> (fail_if_success (guard_hyp hq :ₛ false = false)) <;> first | (exfalso; cases hq; done) | (exfalso; simp only [decide_eq_true_eq, decide_eq_false_iff_not, beq_iff_eq, beq_eq_false_iff_ne, ne_eq, Int.not_lt, Int.not_le] at hq; omega) | simp only [Act.put, List.setIfInBounds_toArray, List.set_cons_succ, List.set_cons_zero]))); all_goals (refine Mix.lex_nil ?_)))
      go_loopw [8, 9] (fun m i wr => ∃ k : Nat, k ≤ rows'.length ∧ i = .int .i64 k ∧ m = .int .i64 (filesN (rows'.take k) : Nat) ∧ Ext w1 wr) (fun _ i _ => rows'.length - (intOf i).toNat)
      case atStart => exact ⟨0, Nat.zero_le _, rfl, by simp [filesN], Only.refl _ _⟩
      case round =>
        obtain ⟨wv, rfl⟩ : ∃ x, x = wr := ⟨_, rfl⟩
        obtain ⟨k, hk, rfl, rfl, hx⟩ := hrel
        have XK := Lib.hid hx
        clear hx
        have hfj := filesN_le (rows'.take k)
        by_cases hlt2 : k < rows'.length
        · have glt2 : decide ((k : Int) < (rows'.length : Int)) = true := decide_eq_true (by omega)
          have glt2' : decide (k < rows'.length) = true := decide_eq_true hlt2
          obtain ⟨b, o, x, hAe, hyx, q0, q1, q2⟩ := chs_get (SlR.of_own (T := chF) (by decide) FR.out.own) hlt2
          subst hAe
          have hx := good_key (HGd.out.ok _ (List.mem_of_getElem? hyx))
          have HSn := Lib.hid (filesN_snoc hyx)
          obtain ⟨key, val, gone⟩ := x
          dsimp only at hx
          have r0 := q0 ⟨wv, XK.out⟩
          dsimp only at r0
          clear q0 q1 q2
          obtain ⟨k0, kr, rfl⟩ : ∃ a l, key = a :: l := by
            match key, hx with
            | a :: l, _ => exact ⟨a, l, rfl⟩
          have hlj : (rows'.take k).length ≤ 10000 := by rw [List.length_take]; omega
          obtain ⟨m, hm⟩ : ∃ m, m = filesN (rows'.take k) := ⟨_, rfl⟩
          rw [← hm] at hfj HSn ⊢
          clear hm
          have hm2 : m ≤ 10000 := by omega
          by_cases h102 : k0 = 102
          · have q : ((k0.toNat : Int) == 102) = true := by rw [h102]; rfl
            have HS2 : Hid (filesN (rows'.take (k + 1)) = m + 1) := by rw [Hid, HSn.out, h102]; rfl
            subst h102
            go_wp2_with (first | ((first | refine Mix.wpList_guarded rfl ?_ | refine Mix.wp_still (by kernel_rfl) (by kernel_rfl) ?_); (repeat' (first | (refine Mix.lex_quiet0 rfl rfl rfl ?_; intro K hK; go_big_quiet_op; go_big_quiet_on) | (refine Mix.lex_quietG rfl rfl rfl (by with_reducible rfl) rfl rfl ?_; intro K hK; go_big_quiet_op; go_big_quiet_on) | ((first | refine Mix.lex_skipT rfl rfl rfl (by with_reducible rfl) ?_ | refine Mix.lex_skipF rfl rfl rfl (by with_reducible rfl) ?_ | refine Mix.lex_skipU rfl rfl rfl (by with_reducible rfl) ?_); simp only [Act.put, List.setIfInBounds_toArray, List.set_cons_succ, List.set_cons_zero]) | (refine Mix.lex_part rfl rfl rfl rfl (fun hq => ?_) (fun hq => ?_) <;> (fail_if_success (guard_hyp hq :ₛ true = true)) <;> (fail_if_success (guard_hyp hq :ₛ false = false)) <;> first | (exfalso; cases hq; done) | (exfalso; simp only [decide_eq_true_eq, decide_eq_false_iff_not, beq_iff_eq, beq_eq_false_iff_ne, ne_eq, Int.not_lt, Int.not_le] at hq; omega) | simp only [Act.put, List.setIfInBounds_toArray, List.set_cons_succ, List.set_cons_zero]))); all_goals (refine Mix.lex_nil ?_)))
            go_roundw
            case rel => exact ⟨k + 1, by omega, by go_num, by rw [HS2.out]; go_num, XK.out⟩
            case measure => simp [intOf]; omega
          · have q : ((k0.toNat : Int) == 102) = false := by rw [show (102 : Int) = ((102 : UInt8).toNat : Int) from rfl, u8_eq]; exact decide_eq_false h102
            have HS2 : Hid (filesN (rows'.take (k + 1)) = m) := by
              rw [Hid, HSn.out]
              have : ((k0 :: kr).getD 0 0 == 102) = false := by show (k0 == 102) = false; rw [beq_eq_false_iff_ne]; exact h102
              simp only [this, Bool.false_eq_true, if_false, Nat.add_zero]
            go_wp2_with (first | ((first | refine Mix.wpList_guarded rfl ?_ | refine Mix.wp_still (by kernel_rfl) (by kernel_rfl) ?_); (repeat' (first | (refine Mix.lex_quiet0 rfl rfl rfl ?_; intro K hK; go_big_quiet_op; go_big_quiet_on) | (refine Mix.lex_quietG rfl rfl rfl (by with_reducible rfl) rfl rfl ?_; intro K hK; go_big_quiet_op; go_big_quiet_on) | ((first | refine Mix.lex_skipT rfl rfl rfl (by with_reducible rfl) ?_ | refine Mix.lex_skipF rfl rfl rfl (by with_reducible rfl) ?_ | refine Mix.lex_skipU rfl rfl rfl (by with_reducible rfl) ?_); simp only [Act.put, List.setIfInBounds_toArray, List.set_cons_succ, List.set_cons_zero]) | (refine Mix.lex_part rfl rfl rfl rfl (fun hq => ?_) (fun hq => ?_) <;> (fail_if_success (guard_hyp hq :ₛ true = true)) <;> (fail_if_success (guard_hyp hq :ₛ false = false)) <;> first | (exfalso; cases hq; done) | (exfalso; simp only [decide_eq_true_eq, decide_eq_false_iff_not, beq_iff_eq, beq_eq_false_iff_ne, ne_eq, Int.not_lt, Int.not_le] at hq; omega) | simp only [Act.put, List.setIfInBounds_toArray, List.set_cons_succ, List.set_cons_zero]))); all_goals (refine Mix.lex_nil ?_)))
            go_roundw
            case rel => exact ⟨k + 1, by omega, by go_num, by rw [HS2.out], XK.out⟩
            case measure => simp [intOf]; omega
        · obtain rfl : k = rows'.length := by omega
          have glt2 : decide ((rows'.length : Int) < (rows'.length : Int)) = false := decide_eq_false (by omega)
          have hfull : rows'.take rows'.length = rows' := List.take_of_length_le (Nat.le_refl _)
          rw [hfull] at hfj ⊢
          obtain ⟨m, hm⟩ : ∃ m, m = filesN rows' := ⟨_, rfl⟩
          rw [← hm] at hfj HMn ⊢
          clear hm hfull
          have XV := Lib.hid (X1.out.then_ext XK.out)
          have CV := Lib.hid (HC0.out.keep XV.out id)
          have s1 : ∀ ξ : X wv No, ξ.v.cell? ⟨g, 1, none⟩ = some (.int .i64 (used : Nat)) := Cs.x CV.out id 1
          have s2 : ∀ ξ : X wv No, ξ.v.cell? ⟨g, 2, none⟩ = some (.int .i64 (many : Nat)) := Cs.x CV.out id 2
          have t2 : wv.cell? ⟨g, 2, none⟩ = some (.int .i64 (many : Nat)) := CV.out.cell 2
          by_cases h1 : 20 < m
          · have k1 : decide ((20 : Int) < (m : Int)) = true := decide_eq_true (by omega)
            have k1' : decide (20 < m) = true := decide_eq_true h1
            have hE : Hid (rcF rows used many c = ((rows, used), 10)) := HRc.out.trans (if_pos (.inl (by rw [HMn.out, k1']; rfl)))
            clear HRc
            go_wp2_with (first | ((first | refine Mix.wpList_guarded rfl ?_ | refine Mix.wp_still (by kernel_rfl) (by kernel_rfl) ?_); (repeat' (first | (refine Mix.lex_quiet0 rfl rfl rfl ?_; intro K hK; go_big_quiet_op; go_big_quiet_on) | (refine Mix.lex_quietG rfl rfl rfl (by with_reducible rfl) rfl rfl ?_; intro K hK; go_big_quiet_op; go_big_quiet_on) | ((first | refine Mix.lex_skipT rfl rfl rfl (by with_reducible rfl) ?_ | refine Mix.lex_skipF rfl rfl rfl (by with_reducible rfl) ?_ | refine Mix.lex_skipU rfl rfl rfl (by with_reducible rfl) ?_); simp only [Act.put, List.setIfInBounds_toArray, List.set_cons_succ, List.set_cons_zero]) | (refine Mix.lex_part rfl rfl rfl rfl (fun hq => ?_) (fun hq => ?_) <;> (fail_if_success (guard_hyp hq :ₛ true = true)) <;> (fail_if_success (guard_hyp hq :ₛ false = false)) <;> first | (exfalso; cases hq; done) | (exfalso; simp only [decide_eq_true_eq, decide_eq_false_iff_not, beq_iff_eq, beq_eq_false_iff_ne, ne_eq, Int.not_lt, Int.not_le] at hq; omega) | simp only [Act.put, List.setIfInBounds_toArray, List.set_cons_succ, List.set_cons_zero]))); all_goals (refine Mix.lex_nil ?_)))
            go_ret
            rw [hE.out]
            exact ⟨rfl, rA, rcap, CV.out, Only.any XV.out, .inl ⟨rfl, rfl, rfl⟩⟩
          · have k1 : decide ((20 : Int) < (m : Int)) = false := decide_eq_false (by omega)
            have k1' : decide (20 < m) = false := decide_eq_false h1
            by_cases h2 : 20 < rows'.length - m
            · have k2 : decide ((20 : Int) < (rows'.length : Int) - (m : Int)) = true := decide_eq_true (by omega)
              have k2' := Lib.hid (decide_eq_true h2)
              have hE : Hid (rcF rows used many c = ((rows, used), 10)) := HRc.out.trans (if_pos (.inl (by rw [HMn.out, k2'.out]; simp)))
              clear HRc
              go_wp2_with (first | ((first | refine Mix.wpList_guarded rfl ?_ | refine Mix.wp_still (by kernel_rfl) (by kernel_rfl) ?_); (repeat' (first | (refine Mix.lex_quiet0 rfl rfl rfl ?_; intro K hK; go_big_quiet_op; go_big_quiet_on) | (refine Mix.lex_quietG rfl rfl rfl (by with_reducible rfl) rfl rfl ?_; intro K hK; go_big_quiet_op; go_big_quiet_on) | ((first | refine Mix.lex_skipT rfl rfl rfl (by with_reducible rfl) ?_ | refine Mix.lex_skipF rfl rfl rfl (by with_reducible rfl) ?_ | refine Mix.lex_skipU rfl rfl rfl (by with_reducible rfl) ?_); simp only [Act.put, List.setIfInBounds_toArray, List.set_cons_succ, List.set_cons_zero]) | (refine Mix.lex_part rfl rfl rfl rfl (fun hq => ?_) (fun hq => ?_) <;> (fail_if_success (guard_hyp hq :ₛ true = true)) <;> (fail_if_success (guard_hyp hq :ₛ false = false)) <;> first | (exfalso; cases hq; done) | (exfalso; simp only [decide_eq_true_eq, decide_eq_false_iff_not, beq_iff_eq, beq_eq_false_iff_ne, ne_eq, Int.not_lt, Int.not_le] at hq; omega) | simp only [Act.put, List.setIfInBounds_toArray, List.set_cons_succ, List.set_cons_zero]))); all_goals (refine Mix.lex_nil ?_)))
              go_ret
              rw [hE.out]
              exact ⟨rfl, rA, rcap, CV.out, Only.any XV.out, .inl ⟨rfl, rfl, rfl⟩⟩
            · have k2 : decide ((20 : Int) < (rows'.length : Int) - (m : Int)) = false := decide_eq_false (by omega)
              have k2' := Lib.hid (decide_eq_false h2)
              have HMf : Hid (manyB rows' = false) := by rw [Hid, HMn.out, k1', k2'.out]; rfl
              clear HMn
              by_cases h3 : many < j + 1
              · have k3 : decide ((many : Int) < (j : Int) + 1) = true := decide_eq_true (by omega)
                have hE : Hid (rcF rows used many c = ((rows, used), 10)) := HRc.out.trans (if_pos (.inr h3))
                clear HRc
                go_wp2_with (first | ((first | refine Mix.wpList_guarded rfl ?_ | refine Mix.wp_still (by kernel_rfl) (by kernel_rfl) ?_); (repeat' (first | (refine Mix.lex_quiet0 rfl rfl rfl ?_; intro K hK; go_big_quiet_op; go_big_quiet_on) | (refine Mix.lex_quietG rfl rfl rfl (by with_reducible rfl) rfl rfl ?_; intro K hK; go_big_quiet_op; go_big_quiet_on) | ((first | refine Mix.lex_skipT rfl rfl rfl (by with_reducible rfl) ?_ | refine Mix.lex_skipF rfl rfl rfl (by with_reducible rfl) ?_ | refine Mix.lex_skipU rfl rfl rfl (by with_reducible rfl) ?_); simp only [Act.put, List.setIfInBounds_toArray, List.set_cons_succ, List.set_cons_zero]) | (refine Mix.lex_part rfl rfl rfl rfl (fun hq => ?_) (fun hq => ?_) <;> (fail_if_success (guard_hyp hq :ₛ true = true)) <;> (fail_if_success (guard_hyp hq :ₛ false = false)) <;> first | (exfalso; cases hq; done) | (exfalso; simp only [decide_eq_true_eq, decide_eq_false_iff_not, beq_iff_eq, beq_eq_false_iff_ne, ne_eq, Int.not_lt, Int.not_le] at hq; omega) | simp only [Act.put, List.setIfInBounds_toArray, List.set_cons_succ, List.set_cons_zero]))); all_goals (refine Mix.lex_nil ?_)))
                go_ret
                rw [hE.out]
                exact ⟨rfl, rA, rcap, CV.out, Only.any XV.out, .inl ⟨rfl, rfl, rfl⟩⟩
              · have k3 : decide ((many : Int) < (j : Int) + 1) = false := decide_eq_false (by omega)
                have HRc := Lib.hid (HRc.out.trans (if_neg (by rw [HMf.out]; rintro (e | e); cases e; exact h3 e)))
                go_upto_region 18 with fail
                (refine Mix.wp_draw [] 100 (Cl (wv) (No)) (by kernel_rfl) (by kernel_rfl) (Cl.drew_ (X.here wv No)) ?_; (repeat' (first | (refine Mix.lex_quiet0 rfl rfl rfl ?_; intro K hK; go_big_quiet_op; go_big_quiet_on) | (refine Mix.lex_quietG rfl rfl rfl (by with_reducible rfl) rfl rfl ?_; intro K hK; go_big_quiet_op; go_big_quiet_on) | ((first | refine Mix.lex_skipT rfl rfl rfl (by with_reducible rfl) ?_ | refine Mix.lex_skipF rfl rfl rfl (by with_reducible rfl) ?_ | refine Mix.lex_skipU rfl rfl rfl (by with_reducible rfl) ?_); simp only [Act.put, List.setIfInBounds_toArray, List.set_cons_succ, List.set_cons_zero]) | (refine Mix.lex_part rfl rfl rfl rfl (fun hq => ?_) (fun hq => ?_) <;> (fail_if_success (guard_hyp hq :ₛ true = true)) <;> (fail_if_success (guard_hyp hq :ₛ false = false)) <;> first | (exfalso; cases hq; done) | (exfalso; simp only [decide_eq_true_eq, decide_eq_false_iff_not, beq_iff_eq, beq_eq_false_iff_ne, ne_eq, Int.not_lt, Int.not_le] at hq; omega) | simp only [Act.put, List.setIfInBounds_toArray, List.set_cons_succ, List.set_cons_zero]))))
                all_goals (refine Mix.lex_nil ?_)
                obtain ⟨v1, hv1⟩ : ∃ v, v = wv.drew := ⟨_, rfl⟩
                have XW : Hid (Ext w1 v1) := by rw [hv1]; exact XK.out.drew
                have CW : Hid (Cs v1 g rsT #[.slice rA rows.length rcap, .int .i64 (used : Nat), .int .i64 (many : Nat)]) := by rw [hv1]; exact CV.out
                rw [← hv1]
                clear hv1 s1 s2 t2
                by_cases h4 : many - used < j + 1
                · have k4 : decide ((many : Int) - (used : Int) < (j : Int) + 1) = true := decide_eq_true (by omega)
                  have p1 : v1.cell? ⟨g, 1, none⟩ = some (.int .i64 (used : Nat)) := CW.out.cell 1
                  have z1 := CW.out.frozen 1
                  go_upto_region 20 with fail
                  obtain ⟨u2, hu2⟩ : ∃ v, v = v1.setCell ⟨g, 1, none⟩ (.int .i64 0) := ⟨_, rfl⟩
                  have C2 : Cs u2 g rsT #[.slice rA rows.length rcap, .int .i64 ((0 : Nat) : Int), .int .i64 (many : Nat)] := by
                    have := CW.out.set_ 1 (.int .i64 0)
                    simp only [List.setIfInBounds_toArray, List.set_cons_succ, List.set_cons_zero] at this
                    rw [hu2]; exact this
                  have O2 : Only (fun b => b = g) w1 u2 := by rw [hu2]; exact (Only.any XW.out : Only (fun b => b = g) w1 v1).at_ 1 _
                  rw [← hu2]
                  clear hu2 p1 z1
                  have p1 : u2.cell? ⟨g, 1, none⟩ = some (.int .i64 (0 : Nat)) := C2.cell 1
                  have z1 := C2.frozen 1
                  have p0 : u2.cell? ⟨g, 0, none⟩ = some (.slice rA rows.length rcap) := C2.cell 0
                  have z0 := C2.frozen 0
                  have p0' : ∀ v, (u2.setCell ⟨g, 1, none⟩ v).cell? ⟨g, 0, none⟩ = some (.slice rA rows.length rcap) := fun v => (C2.set_ 1 v).cell 0
                  have z0' : ∀ v, (u2.setCell ⟨g, 1, none⟩ v).frozen? ⟨g, 0, none⟩ = false := fun v => (C2.set_ 1 v).frozen 0
                  have hE : Hid (rcF rows used many c = ((rows', 0 + j + 1), 0)) := by rw [Hid, HRc.out, if_pos h4]
                  have C2' := Lib.hid C2
                  have O2' := Lib.hid O2
                  clear HRc C2 O2
                  go_wp2_with (first | ((first | refine Mix.wpList_guarded rfl ?_ | refine Mix.wp_still (by kernel_rfl) (by kernel_rfl) ?_); (repeat' (first | (refine Mix.lex_quiet0 rfl rfl rfl ?_; intro K hK; go_big_quiet_op; go_big_quiet_on) | (refine Mix.lex_quietG rfl rfl rfl (by with_reducible rfl) rfl rfl ?_; intro K hK; go_big_quiet_op; go_big_quiet_on) | ((first | refine Mix.lex_skipT rfl rfl rfl (by with_reducible rfl) ?_ | refine Mix.lex_skipF rfl rfl rfl (by with_reducible rfl) ?_ | refine Mix.lex_skipU rfl rfl rfl (by with_reducible rfl) ?_); simp only [Act.put, List.setIfInBounds_toArray, List.set_cons_succ, List.set_cons_zero]) | (refine Mix.lex_part rfl rfl rfl rfl (fun hq => ?_) (fun hq => ?_) <;> (fail_if_success (guard_hyp hq :ₛ true = true)) <;> (fail_if_success (guard_hyp hq :ₛ false = false)) <;> first | (exfalso; cases hq; done) | (exfalso; simp only [decide_eq_true_eq, decide_eq_false_iff_not, beq_iff_eq, beq_eq_false_iff_ne, ne_eq, Int.not_lt, Int.not_le] at hq; omega) | simp only [Act.put, List.setIfInBounds_toArray, List.set_cons_succ, List.set_cons_zero]))); all_goals (refine Mix.lex_nil ?_)))
                  go_ret
                  rw [hE.out]
                  refine ⟨rfl, nA, nc, ?_, ?_, .inr ⟨w1, X1.out, FR.out, ?_⟩⟩
                  · have := (C2'.out.set_ 1 (.int .i64 ((j : Int) + 1))).set_ 0 (.slice nA rows'.length nc)
                    simp only [List.setIfInBounds_toArray, List.set_cons_succ, List.set_cons_zero] at this
                    show Cs _ g rsT #[.slice nA rows'.length nc, .int .i64 ((0 + j + 1 : Nat) : Int), .int .i64 (many : Nat)]
                    rw [show ((0 + j + 1 : Nat) : Int) = (j : Int) + 1 by omega]
                    exact this
                  · exact (((Only.any X1.out : Only (fun b => b = g) w w1).trans O2'.out fun _ _ e => e).at_ 1 _).at_ 0 _
                  · exact (O2'.out.at_ 1 _).at_ 0 _
                · have k4 : decide ((many : Int) - (used : Int) < (j : Int) + 1) = false := decide_eq_false (by omega)
                  go_upto_region 20 with fail
                  obtain ⟨u2, hu2⟩ : ∃ v, v = v1 := ⟨_, rfl⟩
                  have C2 : Cs u2 g rsT #[.slice rA rows.length rcap, .int .i64 (used : Nat), .int .i64 (many : Nat)] := by rw [hu2]; exact CW.out
                  have O2 : Only (fun b => b = g) w1 u2 := by rw [hu2]; exact Only.any XW.out
                  rw [← hu2]
                  clear hu2
                  have p1 : u2.cell? ⟨g, 1, none⟩ = some (.int .i64 (used : Nat)) := C2.cell 1
                  have z1 := C2.frozen 1
                  have p0 : u2.cell? ⟨g, 0, none⟩ = some (.slice rA rows.length rcap) := C2.cell 0
                  have z0 := C2.frozen 0
                  have p0' : ∀ v, (u2.setCell ⟨g, 1, none⟩ v).cell? ⟨g, 0, none⟩ = some (.slice rA rows.length rcap) := fun v => (C2.set_ 1 v).cell 0
                  have z0' : ∀ v, (u2.setCell ⟨g, 1, none⟩ v).frozen? ⟨g, 0, none⟩ = false := fun v => (C2.set_ 1 v).frozen 0
                  have hE : Hid (rcF rows used many c = ((rows', used + j + 1), 0)) := by rw [Hid, HRc.out, if_neg h4]
                  have C2' := Lib.hid C2
                  have O2' := Lib.hid O2
                  clear HRc C2 O2
                  go_wp2_with (first | ((first | refine Mix.wpList_guarded rfl ?_ | refine Mix.wp_still (by kernel_rfl) (by kernel_rfl) ?_); (repeat' (first | (refine Mix.lex_quiet0 rfl rfl rfl ?_; intro K hK; go_big_quiet_op; go_big_quiet_on) | (refine Mix.lex_quietG rfl rfl rfl (by with_reducible rfl) rfl rfl ?_; intro K hK; go_big_quiet_op; go_big_quiet_on) | ((first | refine Mix.lex_skipT rfl rfl rfl (by with_reducible rfl) ?_ | refine Mix.lex_skipF rfl rfl rfl (by with_reducible rfl) ?_ | refine Mix.lex_skipU rfl rfl rfl (by with_reducible rfl) ?_); simp only [Act.put, List.setIfInBounds_toArray, List.set_cons_succ, List.set_cons_zero]) | (refine Mix.lex_part rfl rfl rfl rfl (fun hq => ?_) (fun hq => ?_) <;> (fail_if_success (guard_hyp hq :ₛ true = true)) <;> (fail_if_success (guard_hyp hq :ₛ false = false)) <;> first | (exfalso; cases hq; done) | (exfalso; simp only [decide_eq_true_eq, decide_eq_false_iff_not, beq_iff_eq, beq_eq_false_iff_ne, ne_eq, Int.not_lt, Int.not_le] at hq; omega) | simp only [Act.put, List.setIfInBounds_toArray, List.set_cons_succ, List.set_cons_zero]))); all_goals (refine Mix.lex_nil ?_)))
                  go_ret
                  rw [hE.out]
                  refine ⟨rfl, nA, nc, ?_, ?_, .inr ⟨w1, X1.out, FR.out, ?_⟩⟩
                  · have := (C2'.out.set_ 1 (.int .i64 ((used : Nat) + (j : Int) + 1))).set_ 0 (.slice nA rows'.length nc)
                    simp only [List.setIfInBounds_toArray, List.set_cons_succ, List.set_cons_zero] at this
                    show Cs _ g rsT #[.slice nA rows'.length nc, .int .i64 ((used + j + 1 : Nat) : Int), .int .i64 (many : Nat)]
                    rw [show ((used + j + 1 : Nat) : Int) = ((used : Nat) : Int) + (j : Int) + 1 by omega]
                    exact this
                  · exact (((Only.any X1.out : Only (fun b => b = g) w w1).trans O2'.out fun _ _ e => e).at_ 1 _).at_ 0 _
                  · exact (O2'.out.at_ 1 _).at_ 0 _
end Go.Proofs.Ytaphmmobmadfoaa
