/- Put together: Chs, Deeds, Deeds2, Errs, Said, Disk1, Full, Disk2. -/
import Derived.Test.YtaphmmobmadfoaaProg
import Derived.Test.YtaphmmobmadfoaaMc04
import Derived.Laws.MakeOwn
import Derived.Laws.BytesArg
/- Changes as they lie in memory, and whether they are light. -/
namespace Go.Proofs.Ytaphmmobmadfoaa
open Go Go.RowKit
abbrev Ch := Str × Str × Bool
def chF : Flat Ch := ⟨3, fun c => [S c.1, S c.2.1, .bool c.2.2], fun _ => rfl⟩
abbrev chV (c : Ch) : Value := .agg #[S c.1, S c.2.1, .bool c.2.2]
theorem chs_get {w : World} {A : Option Addr} {n : Nat} {xs : List Ch} (h : SlR chF w A n xs) {k : Nat} (hk : k < n) :
    ∃ b o c, A = some ⟨b, o, none⟩ ∧ xs[k]? = some c ∧ (∀ ξ : X w No, ξ.v.cell? ⟨b, o + k * 3, none⟩ = some (S c.1)) ∧ (∀ ξ : X w No, ξ.v.cell? ⟨b, o + k * 3 + 1, none⟩ = some (S c.2.1)) ∧
      (∀ ξ : X w No, ξ.v.cell? ⟨b, o + k * 3 + 2, none⟩ = some (.bool c.2.2)) := by
  obtain ⟨b, o, x, e, hb, hx, hc⟩ := h.get hk
  exact ⟨b, o, x, e, hx, fun ξ => (ξ.h.cell hb id).trans (hc 0 _ rfl), fun ξ => (ξ.h.cell hb id).trans (hc 1 _ rfl), fun ξ => (ξ.h.cell hb id).trans (hc 2 _ rfl)⟩
def lightC (most : Nat) (l : List Ch) : Bool := decide (l.length ≤ most) && l.all fun c => decide (c.1.length ≤ 20) && decide (c.2.1.length ≤ 400)
theorem lightC_facts {most : Nat} {l : List Ch} (h : lightC most l = true) : l.length ≤ most ∧ ∀ x ∈ l, x.1.length ≤ 20 ∧ x.2.1.length ≤ 400 := by
  simp only [lightC, Bool.and_eq_true, decide_eq_true_eq, List.all_eq_true] at h
  exact h
theorem all_take_succ {α : Type} {p : α → Bool} {l : List α} {k : Nat} {x : α} (h : (l.take k).all p = true) (hx : l[k]? = some x) (hp : p x = true) : (l.take (k + 1)).all p = true := by
  rw [List.take_add_one, hx]
  simp only [Option.toList, List.all_append, h, List.all_cons, hp, List.all_nil, Bool.and_self]
theorem all_false_at {α : Type} {p : α → Bool} {l : List α} {k : Nat} {x : α} (hx : l[k]? = some x) (hp : p x = false) : l.all p = false := by
  rw [List.all_eq_false]
  exact ⟨x, List.mem_of_getElem? hx, by rw [hp]; exact Bool.false_ne_true⟩
theorem LightChanges_c {w : World} {A : Option Addr} {n c : Nat} {xs : List Ch} (h : SlR chF w A n xs) (most : Nat) (hm : most ≤ 1000) :
    Calls Try.prog 25 #[.slice A n c, .int .i64 most] w fun e w' => e = .returned (.bool (lightC most xs)) ∧ Ext w w' := by
  by_cases hn : n ≤ most
  · have HN : Hid (decide (xs.length ≤ most) = true) := by rw [Hid, h.1]; simpa using hn
    go_enter Try.func25, Try.ntmps25
    go_wp2_with (first | ((first | refine Mix.wpList_guarded rfl ?_ | refine Mix.wp_still (by kernel_rfl) (by kernel_rfl) ?_); (repeat' (first | (refine Mix.lex_quiet0 rfl rfl rfl ?_; intro K hK; go_big_quiet_op; go_big_quiet_on) | (refine Mix.lex_quietG rfl rfl rfl (by with_reducible rfl) rfl rfl ?_; intro K hK; go_big_quiet_op; go_big_quiet_on) | ((first | refine Mix.lex_skipT rfl rfl rfl (by with_reducible rfl) ?_ | refine Mix.lex_skipF rfl rfl rfl (by with_reducible rfl) ?_ | refine Mix.lex_skipU rfl rfl rfl (by with_reducible rfl) ?_); simp only [Act.put, List.setIfInBounds_toArray, List.set_cons_succ, List.set_cons_zero]) | (refine Mix.lex_part rfl rfl rfl rfl (fun hq => ?_) (fun hq => ?_) <;> (fail_if_success (guard_hyp hq :ₛ true = true)) <;> (fail_if_success (guard_hyp hq :ₛ false = false)) <;> first | (exfalso; cases hq; done) | (exfalso; simp only [decide_eq_true_eq, decide_eq_false_iff_not, beq_iff_eq, beq_eq_false_iff_ne, ne_eq, Int.not_lt, Int.not_le] at hq; omega) | simp only [Act.put, List.setIfInBounds_toArray, List.set_cons_succ, List.set_cons_zero]))); all_goals (refine Mix.lex_nil ?_)))
    go_loopw [5] (fun i wr => ∃ k : Nat, k ≤ n ∧ i = .int .i64 k ∧ ((xs.take k).all fun c => decide (c.1.length ≤ 20) && decide (c.2.1.length ≤ 400)) = true ∧ ∃ ξ : X w No, wr = ξ.v) (fun i _ => n - (intOf i).toNat)
    case atStart => exact ⟨0, Nat.zero_le _, rfl, rfl, X.here _ _, rfl⟩
    case round =>
      obtain ⟨k, hk, rfl, hT, ξ, rfl⟩ := hrel
      have HT := Lib.hid hT
      clear hT
      by_cases hlt : k < n
      · obtain ⟨b, o, x, rfl, hx, c0, c1, _⟩ := chs_get h hlt
        have HX := Lib.hid hx
        clear hx
        by_cases hp : x.1.length ≤ 20 ∧ x.2.1.length ≤ 400
        · have hp1 := hp.1
          have hp2 := hp.2
          have HP : Hid ((decide (x.1.length ≤ 20) && decide (x.2.1.length ≤ 400)) = true) := by simp [Hid, hp1, hp2]
          clear hp
          go_wp2_with (first | ((first | refine Mix.wpList_guarded rfl ?_ | refine Mix.wp_still (by kernel_rfl) (by kernel_rfl) ?_); (repeat' (first | (refine Mix.lex_quiet0 rfl rfl rfl ?_; intro K hK; go_big_quiet_op; go_big_quiet_on) | (refine Mix.lex_quietG rfl rfl rfl (by with_reducible rfl) rfl rfl ?_; intro K hK; go_big_quiet_op; go_big_quiet_on) | ((first | refine Mix.lex_skipT rfl rfl rfl (by with_reducible rfl) ?_ | refine Mix.lex_skipF rfl rfl rfl (by with_reducible rfl) ?_ | refine Mix.lex_skipU rfl rfl rfl (by with_reducible rfl) ?_); simp only [Act.put, List.setIfInBounds_toArray, List.set_cons_succ, List.set_cons_zero]) | (refine Mix.lex_part rfl rfl rfl rfl (fun hq => ?_) (fun hq => ?_) <;> (fail_if_success (guard_hyp hq :ₛ true = true)) <;> (fail_if_success (guard_hyp hq :ₛ false = false)) <;> first | (exfalso; cases hq; done) | (exfalso; simp only [decide_eq_true_eq, decide_eq_false_iff_not, beq_iff_eq, beq_eq_false_iff_ne, ne_eq, Int.not_lt, Int.not_le] at hq; omega) | simp only [Act.put, List.setIfInBounds_toArray, List.set_cons_succ, List.set_cons_zero]))); all_goals (refine Mix.lex_nil ?_)))
          all_goals try (exfalso; simp only [decide_eq_true_eq, decide_eq_false_iff_not, beq_iff_eq, beq_eq_false_iff_ne, ne_eq, Int.not_lt, Int.not_le, Bool.not_eq_true, Bool.not_eq_false, Bool.or_eq_true, Bool.or_eq_false_iff, Bool.and_eq_true, Bool.and_eq_false_iff, Bool.not_eq_eq_eq_not, Bool.not_true, Bool.not_false] at *; omega)
          go_roundw
          case rel => exact ⟨k + 1, by omega, by go_num, all_take_succ HT.out HX.out HP.out, ξ, rfl⟩
          case measure => simp [intOf]; omega
        · have HP : Hid ((decide (x.1.length ≤ 20) && decide (x.2.1.length ≤ 400)) = false) := by
            rw [Hid, Bool.and_eq_false_iff, decide_eq_false_iff_not, decide_eq_false_iff_not]; omega
          go_wp2_with (first | ((first | refine Mix.wpList_guarded rfl ?_ | refine Mix.wp_still (by kernel_rfl) (by kernel_rfl) ?_); (repeat' (first | (refine Mix.lex_quiet0 rfl rfl rfl ?_; intro K hK; go_big_quiet_op; go_big_quiet_on) | (refine Mix.lex_quietG rfl rfl rfl (by with_reducible rfl) rfl rfl ?_; intro K hK; go_big_quiet_op; go_big_quiet_on) | ((first | refine Mix.lex_skipT rfl rfl rfl (by with_reducible rfl) ?_ | refine Mix.lex_skipF rfl rfl rfl (by with_reducible rfl) ?_ | refine Mix.lex_skipU rfl rfl rfl (by with_reducible rfl) ?_); simp only [Act.put, List.setIfInBounds_toArray, List.set_cons_succ, List.set_cons_zero]) | (refine Mix.lex_part rfl rfl rfl rfl (fun hq => ?_) (fun hq => ?_) <;> (fail_if_success (guard_hyp hq :ₛ true = true)) <;> (fail_if_success (guard_hyp hq :ₛ false = false)) <;> first | (exfalso; cases hq; done) | (exfalso; simp only [decide_eq_true_eq, decide_eq_false_iff_not, beq_iff_eq, beq_eq_false_iff_ne, ne_eq, Int.not_lt, Int.not_le] at hq; omega) | simp only [Act.put, List.setIfInBounds_toArray, List.set_cons_succ, List.set_cons_zero]))); all_goals (refine Mix.lex_nil ?_)))
          all_goals first
            | (go_ret; exact ⟨ret_bool (by unfold lightC; rw [all_false_at HX.out HP.out, Bool.and_false]), ξ.h⟩)
            | (exfalso; simp only [decide_eq_true_eq, decide_eq_false_iff_not, beq_iff_eq, beq_eq_false_iff_ne, ne_eq, Int.not_lt, Int.not_le, Bool.not_eq_true, Bool.not_eq_false, Bool.or_eq_true, Bool.or_eq_false_iff, Bool.and_eq_true, Bool.and_eq_false_iff, Bool.not_eq_eq_eq_not, Bool.not_true, Bool.not_false] at *; omega)
      · go_wp2_with (first | ((first | refine Mix.wpList_guarded rfl ?_ | refine Mix.wp_still (by kernel_rfl) (by kernel_rfl) ?_); (repeat' (first | (refine Mix.lex_quiet0 rfl rfl rfl ?_; intro K hK; go_big_quiet_op; go_big_quiet_on) | (refine Mix.lex_quietG rfl rfl rfl (by with_reducible rfl) rfl rfl ?_; intro K hK; go_big_quiet_op; go_big_quiet_on) | ((first | refine Mix.lex_skipT rfl rfl rfl (by with_reducible rfl) ?_ | refine Mix.lex_skipF rfl rfl rfl (by with_reducible rfl) ?_ | refine Mix.lex_skipU rfl rfl rfl (by with_reducible rfl) ?_); simp only [Act.put, List.setIfInBounds_toArray, List.set_cons_succ, List.set_cons_zero]) | (refine Mix.lex_part rfl rfl rfl rfl (fun hq => ?_) (fun hq => ?_) <;> (fail_if_success (guard_hyp hq :ₛ true = true)) <;> (fail_if_success (guard_hyp hq :ₛ false = false)) <;> first | (exfalso; cases hq; done) | (exfalso; simp only [decide_eq_true_eq, decide_eq_false_iff_not, beq_iff_eq, beq_eq_false_iff_ne, ne_eq, Int.not_lt, Int.not_le] at hq; omega) | simp only [Act.put, List.setIfInBounds_toArray, List.set_cons_succ, List.set_cons_zero]))); all_goals (refine Mix.lex_nil ?_)))
        go_ret
        have hl := HT.out
        rw [List.take_of_length_le (by have := h.1; omega)] at hl
        exact ⟨ret_bool (by unfold lightC; rw [HN.out, hl]; rfl), ξ.h⟩
  · have HN : Hid (lightC most xs = false) := by
      have : decide (xs.length ≤ most) = false := by rw [h.1]; simpa using hn
      rw [Hid, lightC, this]; rfl
    go_enter Try.func25, Try.ntmps25
    go_wp2_with (first | ((first | refine Mix.wpList_guarded rfl ?_ | refine Mix.wp_still (by kernel_rfl) (by kernel_rfl) ?_); (repeat' (first | (refine Mix.lex_quiet0 rfl rfl rfl ?_; intro K hK; go_big_quiet_op; go_big_quiet_on) | (refine Mix.lex_quietG rfl rfl rfl (by with_reducible rfl) rfl rfl ?_; intro K hK; go_big_quiet_op; go_big_quiet_on) | ((first | refine Mix.lex_skipT rfl rfl rfl (by with_reducible rfl) ?_ | refine Mix.lex_skipF rfl rfl rfl (by with_reducible rfl) ?_ | refine Mix.lex_skipU rfl rfl rfl (by with_reducible rfl) ?_); simp only [Act.put, List.setIfInBounds_toArray, List.set_cons_succ, List.set_cons_zero]) | (refine Mix.lex_part rfl rfl rfl rfl (fun hq => ?_) (fun hq => ?_) <;> (fail_if_success (guard_hyp hq :ₛ true = true)) <;> (fail_if_success (guard_hyp hq :ₛ false = false)) <;> first | (exfalso; cases hq; done) | (exfalso; simp only [decide_eq_true_eq, decide_eq_false_iff_not, beq_iff_eq, beq_eq_false_iff_ne, ne_eq, Int.not_lt, Int.not_le] at hq; omega) | simp only [Act.put, List.setIfInBounds_toArray, List.set_cons_succ, List.set_cons_zero]))); all_goals (refine Mix.lex_nil ?_)))
    go_ret
    exact ⟨ret_bool HN.out.symm, Only.refl _ _⟩
end Go.Proofs.Ytaphmmobmadfoaa

/- Deeds as they come in, and whether they are light. -/
namespace Go.Proofs.Ytaphmmobmadfoaa
open Go Go.RowKit
structure Dd where
  kind : Str
  s : Str
  t : Str
  a : Int
  k : Nat
  ca : Option Addr
  cn : Nat
  cc : Nat
  ch : List Ch
def Dd.enc (d : Dd) : List Value := [S d.kind, S d.s, S d.t, .int .i64 d.a, .int .u64 (d.k : Int), .slice d.ca d.cn d.cc]
def ddF : Flat Dd := ⟨6, Dd.enc, fun _ => rfl⟩
structure DeedsR (w : World) (A : Option Addr) (n : Nat) (ds : List Dd) : Prop where
  row : SlR ddF w A n ds
  ch : ∀ d ∈ ds, SlR chF w d.ca d.cn d.ch
  a : ∀ d ∈ ds, -9223372036854775808 ≤ d.a ∧ d.a ≤ 9223372036854775807
  k : ∀ d ∈ ds, d.k < 18446744073709551616
theorem DeedsR.ext {w v : World} {A : Option Addr} {n : Nat} {ds : List Dd} (h : DeedsR w A n ds) (hx : Ext w v) : DeedsR v A n ds :=
  ⟨h.row.ext hx, fun d hd => (h.ch d hd).ext hx, h.a, h.k⟩
theorem deeds_get {w : World} {A : Option Addr} {n : Nat} {ds : List Dd} (h : DeedsR w A n ds) {i : Nat} (hi : i < n) :
    ∃ b o d, A = some ⟨b, o, none⟩ ∧ ds[i]? = some d ∧ d ∈ ds ∧ ∀ j, ∀ ξ : X w No, ∀ u, d.enc[j]? = some u → ξ.v.cell? ⟨b, o + i * 6 + j, none⟩ = some u := by
  obtain ⟨b, o, d, e, hb, hx, hc⟩ := h.row.get hi
  exact ⟨b, o, d, e, hx, List.mem_of_getElem? hx, fun j ξ u hu => (ξ.h.cell hb id).trans (hc j u hu)⟩
def lightD (most : Nat) (l : List Dd) : Bool := decide (l.length ≤ most) && l.all fun d => decide (d.s.length ≤ 800) && decide (d.t.length ≤ 400) && lightC 50 d.ch
end Go.Proofs.Ytaphmmobmadfoaa

namespace Go.Proofs.Ytaphmmobmadfoaa
open Go Go.RowKit
set_option maxHeartbeats 1000000 in
theorem LightDeeds_c {w : World} {A : Option Addr} {n c : Nat} {ds : List Dd} (h : DeedsR w A n ds) (most : Nat) (hm : most ≤ 1000) :
    Calls Try.prog 7 #[.slice A n c, .int .i64 most] w fun e w' => e = .returned (.bool (lightD most ds)) ∧ Ext w w' := by
  by_cases hn : n ≤ most
  · have HN : Hid (decide (ds.length ≤ most) = true) := by rw [Hid, h.row.1]; simpa using hn
    go_enter Try.func7, Try.ntmps7
    go_wp2_with (first | ((first | refine Mix.wpList_guarded rfl ?_ | refine Mix.wp_still (by kernel_rfl) (by kernel_rfl) ?_); (repeat' (first | (refine Mix.lex_quiet0 rfl rfl rfl ?_; intro K hK; go_big_quiet_op; go_big_quiet_on) | (refine Mix.lex_quietG rfl rfl rfl (by with_reducible rfl) rfl rfl ?_; intro K hK; go_big_quiet_op; go_big_quiet_on) | ((first | refine Mix.lex_skipT rfl rfl rfl (by with_reducible rfl) ?_ | refine Mix.lex_skipF rfl rfl rfl (by with_reducible rfl) ?_ | refine Mix.lex_skipU rfl rfl rfl (by with_reducible rfl) ?_); simp only [Act.put, List.setIfInBounds_toArray, List.set_cons_succ, List.set_cons_zero]) | (refine Mix.lex_part rfl rfl rfl rfl (fun hq => ?_) (fun hq => ?_) <;> (fail_if_success (guard_hyp hq :ₛ true = true)) <;> (fail_if_success (guard_hyp hq :ₛ false = false)) <;> first | (exfalso; cases hq; done) | (exfalso; simp only [decide_eq_true_eq, decide_eq_false_iff_not, beq_iff_eq, beq_eq_false_iff_ne, ne_eq, Int.not_lt, Int.not_le] at hq; omega) | simp only [Act.put, List.setIfInBounds_toArray, List.set_cons_succ, List.set_cons_zero]))); all_goals (refine Mix.lex_nil ?_)))
    go_loopw [5] (fun i wr => ∃ k : Nat, k ≤ n ∧ i = .int .i64 k ∧ ((ds.take k).all fun d => decide (d.s.length ≤ 800) && decide (d.t.length ≤ 400) && lightC 50 d.ch) = true ∧ ∃ ξ : X w No, wr = ξ.v) (fun i _ => n - (intOf i).toNat)
    case atStart => exact ⟨0, Nat.zero_le _, rfl, rfl, X.here _ _, rfl⟩
    case round =>
      obtain ⟨k, hk, rfl, hT, ξ, rfl⟩ := hrel
      have HT := Lib.hid hT
      clear hT
      by_cases hlt : k < n
      · obtain ⟨b, o, x, rfl, hx, hmem, hc⟩ := deeds_get h hlt
        have HX := Lib.hid hx
        have c1 := fun ξ => hc 1 ξ _ rfl
        have c2 := fun ξ => hc 2 ξ _ rfl
        have c5 := fun ξ => hc 5 ξ _ rfl
        clear hx hc
        have hL := fun (v : World) (η : Ext w v) => LightChanges_c (c := x.cc) ((h.ch x hmem).ext η) 50 (by omega)
        have HL := Lib.hid hL
        clear hL
        go_upto_region 6 with fail
        refine Mix.wp_plain [22] (Cl w No) ⟨ξ, rfl⟩ ?_
        (repeat' (first | (refine Mix.lex_quiet0 rfl rfl rfl ?_; intro K hK; go_big_quiet_op; go_big_quiet_on) | (refine Mix.lex_quietG rfl rfl rfl (by with_reducible rfl) rfl rfl ?_; intro K hK; go_big_quiet_op; go_big_quiet_on) | ((first | refine Mix.lex_skipT rfl rfl rfl (by with_reducible rfl) ?_ | refine Mix.lex_skipF rfl rfl rfl (by with_reducible rfl) ?_ | refine Mix.lex_skipU rfl rfl rfl (by with_reducible rfl) ?_); simp only [Act.put, List.setIfInBounds_toArray, List.set_cons_succ, List.set_cons_zero]) | (refine Mix.lex_part rfl rfl rfl rfl (fun hq => ?_) (fun hq => ?_) <;> (fail_if_success (guard_hyp hq :ₛ true = true)) <;> (fail_if_success (guard_hyp hq :ₛ false = false)) <;> first | (exfalso; cases hq; done) | (exfalso; simp only [decide_eq_true_eq, decide_eq_false_iff_not, beq_iff_eq, beq_eq_false_iff_ne, ne_eq, Int.not_lt, Int.not_le] at hq; omega) | simp only [Act.put, List.setIfInBounds_toArray, List.set_cons_succ, List.set_cons_zero])))
        all_goals first
          | refine Mix.lex_nil ?_
          | (((first | refine Mix.lex_goes0 rfl rfl ?_ | refine Mix.lex_goesG rfl rfl rfl (by with_reducible rfl) rfl ?_); intro K hK; go_simp)
             refine (HL.out ξ.v ξ.h).mono ?_
             rintro e u1 ⟨rfl, hu1⟩
             have U1 : Hid (Ext w u1) := ξ.h.then_ext hu1
             refine ⟨_, rfl, hK _ _ (fun _ => Cl.of U1.out) ?_⟩
             clear hK K hu1
             simp only [Act.put, List.setIfInBounds_toArray, List.set_cons_succ, List.set_cons_zero]
             (repeat' (first | (refine Mix.lex_quiet0 rfl rfl rfl ?_; intro K hK; go_big_quiet_op; go_big_quiet_on) | (refine Mix.lex_quietG rfl rfl rfl (by with_reducible rfl) rfl rfl ?_; intro K hK; go_big_quiet_op; go_big_quiet_on) | ((first | refine Mix.lex_skipT rfl rfl rfl (by with_reducible rfl) ?_ | refine Mix.lex_skipF rfl rfl rfl (by with_reducible rfl) ?_ | refine Mix.lex_skipU rfl rfl rfl (by with_reducible rfl) ?_); simp only [Act.put, List.setIfInBounds_toArray, List.set_cons_succ, List.set_cons_zero]) | (refine Mix.lex_part rfl rfl rfl rfl (fun hq => ?_) (fun hq => ?_) <;> (fail_if_success (guard_hyp hq :ₛ true = true)) <;> (fail_if_success (guard_hyp hq :ₛ false = false)) <;> first | (exfalso; cases hq; done) | (exfalso; simp only [decide_eq_true_eq, decide_eq_false_iff_not, beq_iff_eq, beq_eq_false_iff_ne, ne_eq, Int.not_lt, Int.not_le] at hq; omega) | simp only [Act.put, List.setIfInBounds_toArray, List.set_cons_succ, List.set_cons_zero])))
             refine Mix.lex_nil ?_)
        · have HP : Hid ((decide (x.s.length ≤ 800) && decide (x.t.length ≤ 400) && lightC 50 x.ch) = false) := by
            have : decide (x.s.length ≤ 800) = false := by simp only [decide_eq_true_eq, decide_eq_false_iff_not, beq_iff_eq, beq_eq_false_iff_ne, ne_eq, Int.not_lt, Int.not_le, Bool.not_eq_true, Bool.not_eq_false, Bool.or_eq_true, Bool.or_eq_false_iff, Bool.and_eq_true, Bool.and_eq_false_iff, Bool.not_eq_eq_eq_not, Bool.not_true, Bool.not_false] at *; omega
            rw [Hid, this]; rfl
          go_wp2_with (first | ((first | refine Mix.wpList_guarded rfl ?_ | refine Mix.wp_still (by kernel_rfl) (by kernel_rfl) ?_); (repeat' (first | (refine Mix.lex_quiet0 rfl rfl rfl ?_; intro K hK; go_big_quiet_op; go_big_quiet_on) | (refine Mix.lex_quietG rfl rfl rfl (by with_reducible rfl) rfl rfl ?_; intro K hK; go_big_quiet_op; go_big_quiet_on) | ((first | refine Mix.lex_skipT rfl rfl rfl (by with_reducible rfl) ?_ | refine Mix.lex_skipF rfl rfl rfl (by with_reducible rfl) ?_ | refine Mix.lex_skipU rfl rfl rfl (by with_reducible rfl) ?_); simp only [Act.put, List.setIfInBounds_toArray, List.set_cons_succ, List.set_cons_zero]) | (refine Mix.lex_part rfl rfl rfl rfl (fun hq => ?_) (fun hq => ?_) <;> (fail_if_success (guard_hyp hq :ₛ true = true)) <;> (fail_if_success (guard_hyp hq :ₛ false = false)) <;> first | (exfalso; cases hq; done) | (exfalso; simp only [decide_eq_true_eq, decide_eq_false_iff_not, beq_iff_eq, beq_eq_false_iff_ne, ne_eq, Int.not_lt, Int.not_le] at hq; omega) | simp only [Act.put, List.setIfInBounds_toArray, List.set_cons_succ, List.set_cons_zero]))); all_goals (refine Mix.lex_nil ?_)))
          go_ret
          exact ⟨ret_bool (by unfold lightD; rw [all_false_at HX.out HP.out, Bool.and_false]), ξ.h⟩
        · have HP : Hid ((decide (x.s.length ≤ 800) && decide (x.t.length ≤ 400) && lightC 50 x.ch) = false) := by
            have : decide (x.t.length ≤ 400) = false := by simp only [decide_eq_true_eq, decide_eq_false_iff_not, beq_iff_eq, beq_eq_false_iff_ne, ne_eq, Int.not_lt, Int.not_le, Bool.not_eq_true, Bool.not_eq_false, Bool.or_eq_true, Bool.or_eq_false_iff, Bool.and_eq_true, Bool.and_eq_false_iff, Bool.not_eq_eq_eq_not, Bool.not_true, Bool.not_false] at *; omega
            rw [Hid, this, Bool.and_false]; rfl
          go_wp2_with (first | ((first | refine Mix.wpList_guarded rfl ?_ | refine Mix.wp_still (by kernel_rfl) (by kernel_rfl) ?_); (repeat' (first | (refine Mix.lex_quiet0 rfl rfl rfl ?_; intro K hK; go_big_quiet_op; go_big_quiet_on) | (refine Mix.lex_quietG rfl rfl rfl (by with_reducible rfl) rfl rfl ?_; intro K hK; go_big_quiet_op; go_big_quiet_on) | ((first | refine Mix.lex_skipT rfl rfl rfl (by with_reducible rfl) ?_ | refine Mix.lex_skipF rfl rfl rfl (by with_reducible rfl) ?_ | refine Mix.lex_skipU rfl rfl rfl (by with_reducible rfl) ?_); simp only [Act.put, List.setIfInBounds_toArray, List.set_cons_succ, List.set_cons_zero]) | (refine Mix.lex_part rfl rfl rfl rfl (fun hq => ?_) (fun hq => ?_) <;> (fail_if_success (guard_hyp hq :ₛ true = true)) <;> (fail_if_success (guard_hyp hq :ₛ false = false)) <;> first | (exfalso; cases hq; done) | (exfalso; simp only [decide_eq_true_eq, decide_eq_false_iff_not, beq_iff_eq, beq_eq_false_iff_ne, ne_eq, Int.not_lt, Int.not_le] at hq; omega) | simp only [Act.put, List.setIfInBounds_toArray, List.set_cons_succ, List.set_cons_zero]))); all_goals (refine Mix.lex_nil ?_)))
          go_ret
          exact ⟨ret_bool (by unfold lightD; rw [all_false_at HX.out HP.out, Bool.and_false]), ξ.h⟩
        · obtain ⟨ls, hls⟩ : ∃ ls, ls = lightC 50 x.ch := ⟨_, rfl⟩
          rw [← hls]
          have HS := Lib.hid hls
          clear hls
          have HP : Hid ((decide (x.s.length ≤ 800) && decide (x.t.length ≤ 400) && lightC 50 x.ch) = ls) := by
            have h1 : decide (x.s.length ≤ 800) = true := by simp only [decide_eq_true_eq, decide_eq_false_iff_not, beq_iff_eq, beq_eq_false_iff_ne, ne_eq, Int.not_lt, Int.not_le, Bool.not_eq_true, Bool.not_eq_false, Bool.or_eq_true, Bool.or_eq_false_iff, Bool.and_eq_true, Bool.and_eq_false_iff, Bool.not_eq_eq_eq_not, Bool.not_true, Bool.not_false] at *; omega
            have h2 : decide (x.t.length ≤ 400) = true := by simp only [decide_eq_true_eq, decide_eq_false_iff_not, beq_iff_eq, beq_eq_false_iff_ne, ne_eq, Int.not_lt, Int.not_le, Bool.not_eq_true, Bool.not_eq_false, Bool.or_eq_true, Bool.or_eq_false_iff, Bool.and_eq_true, Bool.and_eq_false_iff, Bool.not_eq_eq_eq_not, Bool.not_true, Bool.not_false] at *; omega
            rw [Hid, h1, h2, ← HS.out]; rfl
          go_wp2_with (first | ((first | refine Mix.wpList_guarded rfl ?_ | refine Mix.wp_still (by kernel_rfl) (by kernel_rfl) ?_); (repeat' (first | (refine Mix.lex_quiet0 rfl rfl rfl ?_; intro K hK; go_big_quiet_op; go_big_quiet_on) | (refine Mix.lex_quietG rfl rfl rfl (by with_reducible rfl) rfl rfl ?_; intro K hK; go_big_quiet_op; go_big_quiet_on) | ((first | refine Mix.lex_skipT rfl rfl rfl (by with_reducible rfl) ?_ | refine Mix.lex_skipF rfl rfl rfl (by with_reducible rfl) ?_ | refine Mix.lex_skipU rfl rfl rfl (by with_reducible rfl) ?_); simp only [Act.put, List.setIfInBounds_toArray, List.set_cons_succ, List.set_cons_zero]) | (refine Mix.lex_part rfl rfl rfl rfl (fun hq => ?_) (fun hq => ?_) <;> (fail_if_success (guard_hyp hq :ₛ true = true)) <;> (fail_if_success (guard_hyp hq :ₛ false = false)) <;> first | (exfalso; cases hq; done) | (exfalso; simp only [decide_eq_true_eq, decide_eq_false_iff_not, beq_iff_eq, beq_eq_false_iff_ne, ne_eq, Int.not_lt, Int.not_le] at hq; omega) | simp only [Act.put, List.setIfInBounds_toArray, List.set_cons_succ, List.set_cons_zero]))); all_goals (refine Mix.lex_nil ?_)))
          · have e : ls = false := by rename_i hh; simpa using hh
            go_ret
            exact ⟨ret_bool (by unfold lightD; rw [all_false_at HX.out (HP.out.trans e), Bool.and_false]), U1.out⟩
          · have e : ls = true := by rename_i hh; simpa using hh
            go_roundw
            case rel => exact ⟨k + 1, by omega, by go_num, all_take_succ HT.out HX.out (HP.out.trans e), ⟨u1, U1.out⟩, rfl⟩
            case measure => simp [intOf]; omega
      · go_wp2_with (first | ((first | refine Mix.wpList_guarded rfl ?_ | refine Mix.wp_still (by kernel_rfl) (by kernel_rfl) ?_); (repeat' (first | (refine Mix.lex_quiet0 rfl rfl rfl ?_; intro K hK; go_big_quiet_op; go_big_quiet_on) | (refine Mix.lex_quietG rfl rfl rfl (by with_reducible rfl) rfl rfl ?_; intro K hK; go_big_quiet_op; go_big_quiet_on) | ((first | refine Mix.lex_skipT rfl rfl rfl (by with_reducible rfl) ?_ | refine Mix.lex_skipF rfl rfl rfl (by with_reducible rfl) ?_ | refine Mix.lex_skipU rfl rfl rfl (by with_reducible rfl) ?_); simp only [Act.put, List.setIfInBounds_toArray, List.set_cons_succ, List.set_cons_zero]) | (refine Mix.lex_part rfl rfl rfl rfl (fun hq => ?_) (fun hq => ?_) <;> (fail_if_success (guard_hyp hq :ₛ true = true)) <;> (fail_if_success (guard_hyp hq :ₛ false = false)) <;> first | (exfalso; cases hq; done) | (exfalso; simp only [decide_eq_true_eq, decide_eq_false_iff_not, beq_iff_eq, beq_eq_false_iff_ne, ne_eq, Int.not_lt, Int.not_le] at hq; omega) | simp only [Act.put, List.setIfInBounds_toArray, List.set_cons_succ, List.set_cons_zero]))); all_goals (refine Mix.lex_nil ?_)))
        go_ret
        have hl := HT.out
        rw [List.take_of_length_le (by have := h.row.1; omega)] at hl
        exact ⟨ret_bool (by unfold lightD; rw [HN.out, hl]; rfl), ξ.h⟩
  · have HN : Hid (lightD most ds = false) := by
      have : decide (ds.length ≤ most) = false := by rw [h.row.1]; simpa using hn
      rw [Hid, lightD, this]; rfl
    go_enter Try.func7, Try.ntmps7
    go_wp2_with (first | ((first | refine Mix.wpList_guarded rfl ?_ | refine Mix.wp_still (by kernel_rfl) (by kernel_rfl) ?_); (repeat' (first | (refine Mix.lex_quiet0 rfl rfl rfl ?_; intro K hK; go_big_quiet_op; go_big_quiet_on) | (refine Mix.lex_quietG rfl rfl rfl (by with_reducible rfl) rfl rfl ?_; intro K hK; go_big_quiet_op; go_big_quiet_on) | ((first | refine Mix.lex_skipT rfl rfl rfl (by with_reducible rfl) ?_ | refine Mix.lex_skipF rfl rfl rfl (by with_reducible rfl) ?_ | refine Mix.lex_skipU rfl rfl rfl (by with_reducible rfl) ?_); simp only [Act.put, List.setIfInBounds_toArray, List.set_cons_succ, List.set_cons_zero]) | (refine Mix.lex_part rfl rfl rfl rfl (fun hq => ?_) (fun hq => ?_) <;> (fail_if_success (guard_hyp hq :ₛ true = true)) <;> (fail_if_success (guard_hyp hq :ₛ false = false)) <;> first | (exfalso; cases hq; done) | (exfalso; simp only [decide_eq_true_eq, decide_eq_false_iff_not, beq_iff_eq, beq_eq_false_iff_ne, ne_eq, Int.not_lt, Int.not_le] at hq; omega) | simp only [Act.put, List.setIfInBounds_toArray, List.set_cons_succ, List.set_cons_zero]))); all_goals (refine Mix.lex_nil ?_)))
    go_ret
    exact ⟨ret_bool HN.out.symm, Only.refl _ _⟩
end Go.Proofs.Ytaphmmobmadfoaa

/- Errors by their numbers. -/
namespace Go.Proofs.Ytaphmmobmadfoaa
open Go Go.RowKit
/-- An error that is one of the package's numbers. -/
abbrev E (n : Int) : Value := .iface 63 (.int .i64 n)
abbrev pt (g : Nat) : Value := .pointer (some ⟨g, 0, none⟩)
/-- The error value of a number. -/
def errV (n : Int) : Value := if n = 0 then .nilIface else E n
theorem errV_zero : errV 0 = .nilIface := rfl
theorem errV_pos {n : Int} (h : n ≠ 0) : errV n = E n := if_neg h
end Go.Proofs.Ytaphmmobmadfoaa

/- An error and a number: the same? -/
namespace Go.Proofs.Ytaphmmobmadfoaa
open Go Go.RowKit
theorem same_nil (f : Int) (w : World) :
    Calls Try.prog 9 #[.nilIface, .int .i64 f] w fun e w' => e = .returned (.bool (decide (f = 0))) ∧ Ext w w' := by
  go_enter Try.func9, Try.ntmps9
  go_wp2_with (first | ((first | refine Mix.wpList_guarded rfl ?_ | refine Mix.wp_still (by kernel_rfl) (by kernel_rfl) ?_); (repeat' (first | (refine Mix.lex_quiet0 rfl rfl rfl ?_; intro K hK; go_big_quiet_op; go_big_quiet_on) | (refine Mix.lex_quietG rfl rfl rfl (by with_reducible rfl) rfl rfl ?_; intro K hK; go_big_quiet_op; go_big_quiet_on) | ((first | refine Mix.lex_skipT rfl rfl rfl (by with_reducible rfl) ?_ | refine Mix.lex_skipF rfl rfl rfl (by with_reducible rfl) ?_ | refine Mix.lex_skipU rfl rfl rfl (by with_reducible rfl) ?_); simp only [Act.put, List.setIfInBounds_toArray, List.set_cons_succ, List.set_cons_zero]) | (refine Mix.lex_part rfl rfl rfl rfl (fun hq => ?_) (fun hq => ?_) <;> (fail_if_success (guard_hyp hq :ₛ true = true)) <;> (fail_if_success (guard_hyp hq :ₛ false = false)) <;> first | (exfalso; cases hq; done) | (exfalso; simp only [decide_eq_true_eq, decide_eq_false_iff_not, beq_iff_eq, beq_eq_false_iff_ne, ne_eq, Int.not_lt, Int.not_le] at hq; omega) | simp only [Act.put, List.setIfInBounds_toArray, List.set_cons_succ, List.set_cons_zero]))); all_goals (refine Mix.lex_nil ?_)))
  go_ret
  exact ⟨rfl, Only.refl _ _⟩
theorem as_E (n : Int) (xT : TypeId) (w : World) : (Instr.typeAssert (E n) xT 63 true).run Try.prog w = .ok (.tuple #[.int .i64 n, .bool true]) w := by
  unfold Instr.typeAssert
  rw [Sem.run_bind, run_underlying Try.underlying63]
  simp [Result.andThen, Sem.run_pure, E]
theorem same_E (n f : Int) (w : World) :
    Calls Try.prog 9 #[E n, .int .i64 f] w fun e w' => e = .returned (.bool (decide (0 < f) && decide (n = f))) ∧ Ext w w' := by
  have hE := as_E n
  go_enter Try.func9, Try.ntmps9
  go_wp2_with (first | ((first | refine Mix.wpList_guarded rfl ?_ | refine Mix.wp_still (by kernel_rfl) (by kernel_rfl) ?_); (repeat' (first | (refine Mix.lex_quiet0 rfl rfl rfl ?_; intro K hK; go_big_quiet_op; go_big_quiet_on) | (refine Mix.lex_quietG rfl rfl rfl (by with_reducible rfl) rfl rfl ?_; intro K hK; go_big_quiet_op; go_big_quiet_on) | ((first | refine Mix.lex_skipT rfl rfl rfl (by with_reducible rfl) ?_ | refine Mix.lex_skipF rfl rfl rfl (by with_reducible rfl) ?_ | refine Mix.lex_skipU rfl rfl rfl (by with_reducible rfl) ?_); simp only [Act.put, List.setIfInBounds_toArray, List.set_cons_succ, List.set_cons_zero]) | (refine Mix.lex_part rfl rfl rfl rfl (fun hq => ?_) (fun hq => ?_) <;> (fail_if_success (guard_hyp hq :ₛ true = true)) <;> (fail_if_success (guard_hyp hq :ₛ false = false)) <;> first | (exfalso; cases hq; done) | (exfalso; simp only [decide_eq_true_eq, decide_eq_false_iff_not, beq_iff_eq, beq_eq_false_iff_ne, ne_eq, Int.not_lt, Int.not_le] at hq; omega) | simp only [Act.put, List.setIfInBounds_toArray, List.set_cons_succ, List.set_cons_zero]))); all_goals (refine Mix.lex_nil ?_)))
  all_goals (go_ret; refine ⟨?_, Only.refl _ _⟩)
  all_goals refine ret_bool ?_
  · rw [hq]; rfl
  · rw [hq]; simp
theorem same_c (n f : Int) (hn : 0 ≤ n) (w : World) :
    Calls Try.prog 9 #[errV n, .int .i64 f] w fun e w' => e = .returned (.bool (decide (n = f))) ∧ Ext w w' := by
  by_cases h : n = 0
  · subst h
    refine (same_nil f w).mono ?_
    rintro e w' ⟨rfl, hx⟩
    exact ⟨by congr 2; simp [eq_comm], hx⟩
  · rw [errV_pos h]
    refine (same_E n f w).mono ?_
    rintro e w' ⟨rfl, hx⟩
    refine ⟨?_, hx⟩
    congr 2
    by_cases hf : n = f
    · subst hf; simp; omega
    · simp [hf]
theorem same_self (f : Int) (hf : 0 ≤ f) (w : World) : Calls Try.prog 9 #[errV f, .int .i64 f] w fun e w' => e = .returned (.bool true) ∧ Ext w w' := by
  have := same_c f f hf w
  rwa [decide_eq_true rfl] at this
end Go.Proofs.Ytaphmmobmadfoaa

namespace Go.Proofs.Ytaphmmobmadfoaa
open Go Go.RowKit
theorem step_down {w : World} {g : Nat} {kv nv wv : Value} {fuse : Int} (h : Cs w g 70 #[kv, nv, wv, .int .i64 fuse, .bool true]) :
    Calls Try.prog 58 #[pt g] w fun e w' => e = .returned (E 11) ∧ Ext w w' := by
  have c3 := h.cell 3; have c4 := h.cell 4
  simp only [List.getElem?_toArray, List.getElem?_cons_succ, List.getElem?_cons_zero] at c3 c4
  clear h
  go_enter Try.func58, Try.ntmps58
  go_wp2_with (first | ((first | refine Mix.wpList_guarded rfl ?_ | refine Mix.wp_still (by kernel_rfl) (by kernel_rfl) ?_); (repeat' (first | (refine Mix.lex_quiet0 rfl rfl rfl ?_; intro K hK; go_big_quiet_op; go_big_quiet_on) | (refine Mix.lex_quietG rfl rfl rfl (by with_reducible rfl) rfl rfl ?_; intro K hK; go_big_quiet_op; go_big_quiet_on) | ((first | refine Mix.lex_skipT rfl rfl rfl (by with_reducible rfl) ?_ | refine Mix.lex_skipF rfl rfl rfl (by with_reducible rfl) ?_ | refine Mix.lex_skipU rfl rfl rfl (by with_reducible rfl) ?_); simp only [Act.put, List.setIfInBounds_toArray, List.set_cons_succ, List.set_cons_zero]) | (refine Mix.lex_part rfl rfl rfl rfl (fun hq => ?_) (fun hq => ?_) <;> (fail_if_success (guard_hyp hq :ₛ true = true)) <;> (fail_if_success (guard_hyp hq :ₛ false = false)) <;> first | (exfalso; cases hq; done) | (exfalso; simp only [decide_eq_true_eq, decide_eq_false_iff_not, beq_iff_eq, beq_eq_false_iff_ne, ne_eq, Int.not_lt, Int.not_le] at hq; omega) | simp only [Act.put, List.setIfInBounds_toArray, List.set_cons_succ, List.set_cons_zero]))); all_goals (refine Mix.lex_nil ?_)))
  go_ret
  exact ⟨rfl, Only.refl _ _⟩
theorem step_fuse {w : World} {g : Nat} {kv nv wv : Value} (h : Cs w g 70 #[kv, nv, wv, .int .i64 0, .bool false]) :
    Calls Try.prog 58 #[pt g] w fun e w' => e = .returned (E 11) ∧ Cs w' g 70 #[kv, nv, wv, .int .i64 (-1), .bool true] ∧ Only (· = g) w w' := by
  have c3 := h.cell 3; have c4 := h.cell 4
  have f3 := h.frozen 3; have f4 := h.frozen 4
  simp only [List.getElem?_toArray, List.getElem?_cons_succ, List.getElem?_cons_zero] at c3 c4
  have H := Lib.hid h
  clear h
  go_enter Try.func58, Try.ntmps58
  go_wp2_with (first | ((first | refine Mix.wpList_guarded rfl ?_ | refine Mix.wp_still (by kernel_rfl) (by kernel_rfl) ?_); (repeat' (first | (refine Mix.lex_quiet0 rfl rfl rfl ?_; intro K hK; go_big_quiet_op; go_big_quiet_on) | (refine Mix.lex_quietG rfl rfl rfl (by with_reducible rfl) rfl rfl ?_; intro K hK; go_big_quiet_op; go_big_quiet_on) | ((first | refine Mix.lex_skipT rfl rfl rfl (by with_reducible rfl) ?_ | refine Mix.lex_skipF rfl rfl rfl (by with_reducible rfl) ?_ | refine Mix.lex_skipU rfl rfl rfl (by with_reducible rfl) ?_); simp only [Act.put, List.setIfInBounds_toArray, List.set_cons_succ, List.set_cons_zero]) | (refine Mix.lex_part rfl rfl rfl rfl (fun hq => ?_) (fun hq => ?_) <;> (fail_if_success (guard_hyp hq :ₛ true = true)) <;> (fail_if_success (guard_hyp hq :ₛ false = false)) <;> first | (exfalso; cases hq; done) | (exfalso; simp only [decide_eq_true_eq, decide_eq_false_iff_not, beq_iff_eq, beq_eq_false_iff_ne, ne_eq, Int.not_lt, Int.not_le] at hq; omega) | simp only [Act.put, List.setIfInBounds_toArray, List.set_cons_succ, List.set_cons_zero]))); all_goals (refine Mix.lex_nil ?_)))
  go_ret
  have hC := (H.out.set_ 4 (.bool true)).set_ 3 (.int .i64 (-1))
  simp only [List.setIfInBounds_toArray, List.set_cons_succ, List.set_cons_zero] at hC
  exact ⟨rfl, hC, ((Only.refl _ _).at_ 4 _).at_ 3 _⟩
theorem step_on {w : World} {g : Nat} {kv nv wv : Value} {fuse : Int} (h : Cs w g 70 #[kv, nv, wv, .int .i64 fuse, .bool false]) (h1 : fuse ≠ 0) (h2 : -1 ≤ fuse) (h3 : fuse ≤ 9223372036854775807) :
    Calls Try.prog 58 #[pt g] w fun e w' => e = .returned .nilIface ∧ Cs w' g 70 #[kv, nv, wv, .int .i64 (max (fuse - 1) (-1)), .bool false] ∧ Only (· = g) w w' := by
  have c3 := h.cell 3; have c4 := h.cell 4
  have f3 := h.frozen 3; have f4 := h.frozen 4
  simp only [List.getElem?_toArray, List.getElem?_cons_succ, List.getElem?_cons_zero] at c3 c4
  have H := Lib.hid h
  clear h
  go_enter Try.func58, Try.ntmps58
  go_wp2_with (first | ((first | refine Mix.wpList_guarded rfl ?_ | refine Mix.wp_still (by kernel_rfl) (by kernel_rfl) ?_); (repeat' (first | (refine Mix.lex_quiet0 rfl rfl rfl ?_; intro K hK; go_big_quiet_op; go_big_quiet_on) | (refine Mix.lex_quietG rfl rfl rfl (by with_reducible rfl) rfl rfl ?_; intro K hK; go_big_quiet_op; go_big_quiet_on) | ((first | refine Mix.lex_skipT rfl rfl rfl (by with_reducible rfl) ?_ | refine Mix.lex_skipF rfl rfl rfl (by with_reducible rfl) ?_ | refine Mix.lex_skipU rfl rfl rfl (by with_reducible rfl) ?_); simp only [Act.put, List.setIfInBounds_toArray, List.set_cons_succ, List.set_cons_zero]) | (refine Mix.lex_part rfl rfl rfl rfl (fun hq => ?_) (fun hq => ?_) <;> (fail_if_success (guard_hyp hq :ₛ true = true)) <;> (fail_if_success (guard_hyp hq :ₛ false = false)) <;> first | (exfalso; cases hq; done) | (exfalso; simp only [decide_eq_true_eq, decide_eq_false_iff_not, beq_iff_eq, beq_eq_false_iff_ne, ne_eq, Int.not_lt, Int.not_le] at hq; omega) | simp only [Act.put, List.setIfInBounds_toArray, List.set_cons_succ, List.set_cons_zero]))); all_goals (refine Mix.lex_nil ?_)))
  all_goals
    go_ret
    have hC := H.out.set_ 3 (.int .i64 (max (fuse - 1) (-1)))
    simp only [List.setIfInBounds_toArray, List.set_cons_succ, List.set_cons_zero] at hC
  · have hm : max (fuse - 1) (-1) = -1 := by omega
    rw [hm] at hC ⊢
    exact ⟨rfl, hC, (Only.refl _ _).at_ 3 _⟩
  · have hm : max (fuse - 1) (-1) = fuse - 1 := by omega
    rw [hm] at hC ⊢
    exact ⟨rfl, hC, (Only.refl _ _).at_ 3 _⟩
end Go.Proofs.Ytaphmmobmadfoaa

/- Sectors: a text with noughts behind it. -/
namespace Go.Proofs.Ytaphmmobmadfoaa
open Go Go.RowKit
def zeros (n : Nat) : Str := List.replicate n 0
theorem length_zeros (n : Nat) : (zeros n).length = n := List.length_replicate
theorem byte_info : (Try.prog.info? 5).map (fun i => (i.zero, i.size, i.bytes)) = some (some (.int .u8 0), 1, 1) := by kernel_rfl
theorem strOf_zeros (n : Nat) : strOfNums (List.replicate n 0) = ⟨(zeros n).toArray⟩ := by
  unfold strOfNums zeros
  simp
theorem make_bytes (n : Nat) (hn : n ≤ 1000000) (w : World) : (Instr.makeSlice 93 (.int .i64 (n : Int)) (.int .i64 (n : Int))).run Try.prog w =
    .ok (.slice (some ⟨w.heap.size, 0, none⟩) n n) (w.alloc (.cells (madeCells #[.int .u8 0] n) 5)) := by
  obtain ⟨i0, hi, hz, h1, h2⟩ := info_parts byte_info
  have hb : (i0.bytes : Int) * (n : Int) ≤ 281474976710656 := by rw [h2]; omega
  have hr := run_make (P := Try.prog) w 93 5 i0 (.int .u8 0) Try.underlying93 hi hz .i64 .i64 n n (by omega) (by omega) hb (by omega)
  simp only [Int.toNat_natCast] at hr
  rw [hr, h1]
  simp [Value.cells]
theorem cell_made (n i : Nat) (hi : i < n) : (madeCells #[.int .u8 0] n)[i]? = some (.int .u8 0) := by
  unfold madeCells
  rw [Array.getElem?_map, Array.getElem?_range]
  simp [hi, Nat.mod_one]
theorem str_bytes (n : Nat) (w : World) : (convert 93 9 (.slice (some ⟨w.heap.size, 0, none⟩) n n)).run Try.prog (w.alloc (.cells (madeCells #[.int .u8 0] n) 5)) =
    .ok (S (zeros n)) (w.alloc (.cells (madeCells #[.int .u8 0] n) 5)) := by
  rw [run_convert_bytes_arg _ 93 5 Try.underlying93 Try.underlying5 w.heap.size 0 n n (List.replicate n 0) (by simp) (fun i hi => ?_) 9 Try.underlying9, strOf_zeros]
  rw [(Cs.new w 5 (madeCells #[.int .u8 0] n)).cell, Nat.zero_add, cell_made n i hi]
  simp [List.getD, hi]
def full (s : Str) : Str := s ++ zeros (340 - s.length)
theorem length_full (s : Str) (h : s.length ≤ 340) : (full s).length = 340 := by
  unfold full; rw [List.length_append, length_zeros]; omega
theorem full_c (s : Str) (hs : s.length ≤ 340) (w : World) :
    Calls Try.prog 27 #[S s] w fun e w' => e = .returned (S (full s)) ∧ Ext w w' := by
  have h1 := make_bytes (340 - s.length) (by omega)
  have h2 := str_bytes (340 - s.length)
  have e : ((340 - s.length : Nat) : Int) = 340 - (s.length : Int) := by omega
  rw [e] at h1
  clear e
  have hz : (zeros (340 - s.length)).length ≤ 340 := by rw [length_zeros]; omega
  go_enter Try.func27, Try.ntmps27
  go_wp2
  go_ret
  exact ⟨rfl, (Only.refl _ _).alloc _⟩
end Go.Proofs.Ytaphmmobmadfoaa

/- The program's disk in memory, and what its methods do. -/
namespace Go.Proofs.Ytaphmmobmadfoaa
open Go Go.RowKit
structure Dk where
  kept : List Str
  now : List Str
  wait : List (Nat × Str)
  fuse : Int
  down : Bool
structure DkR where
  g : Nat
  kg : Nat
  kc : Nat
  ng : Nat
  nc : Nat
  wv : Value
def turnC (t : Nat × Str) : List Value := [.int .i64 (t.1 : Int), S t.2]
structure Dk.Fine (d : Dk) : Prop where
  len : d.kept.length = d.now.length
  pos : 0 < d.now.length
  most : d.now.length ≤ 120
  lo : -1 ≤ d.fuse
  hi : d.fuse ≤ 9223372036854775807
  at_ : ∀ t ∈ d.wait, t.1 < d.now.length
abbrev DkR.cells (r : DkR) (d : Dk) : Array Value := #[.slice (some ⟨r.kg, 0, none⟩) d.now.length r.kc, .slice (some ⟨r.ng, 0, none⟩) d.now.length r.nc, r.wv, .int .i64 d.fuse, .bool d.down]
structure DiskAt (w : World) (r : DkR) (d : Dk) : Prop where
  cs : Cs w r.g 70 (r.cells d)
  kept : w.ownsRow 0 9 1 (.slice (some ⟨r.kg, 0, none⟩) d.now.length r.kc) d.now.length (d.kept.map S)
  now : w.ownsRow 0 9 1 (.slice (some ⟨r.ng, 0, none⟩) d.now.length r.nc) d.now.length (d.now.map S)
  wait : w.ownsRow 0 96 2 r.wv d.wait.length (d.wait.flatMap turnC)
  ne : r.kg ≠ r.ng
  fine : d.Fine
/-- The blocks that a disk lies in. -/
def DkR.fp (r : DkR) (b : Nat) : Prop := b = r.g ∨ b = r.kg ∨ b = r.ng ∨ r.wv.ownBlock = some b
theorem own_ne {w : World} {B g n : Nat} {t e : TypeId} {size : Nat} {cs : Array Value} {v : Value} {xs : List Value} (h : w.ownsRow B e size v n xs) (hg : Cs w g t cs) (hne : e ≠ t) : v.ownBlock ≠ some g := by
  rcases h.2 with ⟨rfl, _⟩ | ⟨g', cap, cur, rfl, _, hh, _⟩
  · simp [Value.ownBlock]
  · intro he
    have : g' = g := by simpa [Value.ownBlock] using he
    subst this
    exact Cs.ne_ (t := e) hh hg hne rfl
section
variable {w v : World} {r : DkR} {d : Dk} {F : Nat → Prop}
theorem DiskAt.keep (h : DiskAt w r d) (hx : Only F w v) (hn : ∀ b, r.fp b → ¬ F b) : DiskAt v r d :=
  ⟨h.cs.keep hx (hn _ (.inl rfl)), own_keep h.kept hx (fun g hg => by simp [Value.ownBlock] at hg; subst hg; exact hn _ (.inr (.inl rfl))),
   own_keep h.now hx (fun g hg => by simp [Value.ownBlock] at hg; subst hg; exact hn _ (.inr (.inr (.inl rfl)))), own_keep h.wait hx (fun g hg => hn _ (.inr (.inr (.inr hg)))), h.ne, h.fine⟩
theorem DiskAt.ext (h : DiskAt w r d) (hx : Ext w v) : DiskAt v r d := h.keep hx fun _ _ h => h
theorem DiskAt.gk (h : DiskAt w r d) : r.kg ≠ r.g := fun e => own_ne h.kept h.cs (by decide) (by rw [← e]; rfl)
theorem DiskAt.gn (h : DiskAt w r d) : r.ng ≠ r.g := fun e => own_ne h.now h.cs (by decide) (by rw [← e]; rfl)
theorem DiskAt.gw (h : DiskAt w r d) : r.wv.ownBlock ≠ some r.g := own_ne h.wait h.cs (by decide)
theorem DiskAt.nowCell (h : DiskAt w r d) {k : Nat} (hk : k < d.now.length) : w.cell? ⟨r.ng, k, none⟩ = some (S (d.now[k])) := by
  rw [h.now.cellAt k (by omega), List.getElem?_map, List.getElem?_eq_getElem hk]; rfl
/-- What a step leaves. -/
def Dk.stepped (d : Dk) : Dk := if d.down then d else if d.fuse = 0 then { d with fuse := -1, down := true } else { d with fuse := max (d.fuse - 1) (-1) }
def Dk.falls (d : Dk) : Bool := d.down || decide (d.fuse = 0)
theorem Dk.Fine.stepped (h : d.Fine) : d.stepped.Fine := by
  unfold Dk.stepped
  split
  · exact h
  · have := h.lo; have := h.hi
    split
    · exact ⟨h.len, h.pos, h.most, by simp, by simp, h.at_⟩
    · exact ⟨h.len, h.pos, h.most, by simp; omega, by simp; omega, h.at_⟩
end
def DkRes (w : World) (r : DkR) (d' : Dk) (v : Value) (e : Ending) (w' : World) : Prop :=
  e = .returned v ∧ ∃ r' : DkR, DiskAt w' r' d' ∧ r'.g = r.g ∧ Only r.fp w w' ∧ ∀ b, r'.fp b → r.fp b ∨ w.heap.size ≤ b
theorem step_c {w : World} {r : DkR} {d : Dk} (h : DiskAt w r d) :
    Calls Try.prog 58 #[pt r.g] w fun e w' => e = .returned (if d.falls then E 11 else .nilIface) ∧ DiskAt w' r d.stepped ∧ Only (· = r.g) w w' := by
  obtain ⟨kept, now, wait, fuse, down⟩ := d
  have hk := h.gk; have hn := h.gn; have hw := h.gw
  cases down with
  | true =>
    refine (step_down h.cs).mono fun e w' ⟨he, hx⟩ => ⟨by simpa [Dk.falls] using he, ?_, hx.weak fun _ _ h => h.elim⟩
    simpa [Dk.stepped] using h.ext hx
  | false =>
    by_cases h0 : fuse = 0
    · subst h0
      refine (step_fuse h.cs).mono fun e w' ⟨he, hc, hx⟩ => ⟨by simpa [Dk.falls] using he, ?_, hx⟩
      have := h.fine.stepped
      simp only [Dk.stepped] at this ⊢
      exact ⟨hc, own_keep h.kept hx (fun g hg => by simp [Value.ownBlock] at hg; omega), own_keep h.now hx (fun g hg => by simp [Value.ownBlock] at hg; omega),
        own_keep h.wait hx (fun g hg e => hw (by rw [hg, e])), h.ne, this⟩
    · refine (step_on h.cs h0 h.fine.lo h.fine.hi).mono fun e w' ⟨he, hc, hx⟩ => ⟨by simpa [Dk.falls, h0] using he, ?_, hx⟩
      have := h.fine.stepped
      simp only [Dk.stepped, h0, Bool.false_eq_true, if_false] at this ⊢
      exact ⟨hc, own_keep h.kept hx (fun g hg => by simp [Value.ownBlock] at hg; omega), own_keep h.now hx (fun g hg => by simp [Value.ownBlock] at hg; omega),
        own_keep h.wait hx (fun g hg e => hw (by rw [hg, e])), h.ne, this⟩
end Go.Proofs.Ytaphmmobmadfoaa
