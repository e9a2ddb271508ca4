/- Lists of changes: the same? -/
import Derived.Test.YtlfiobciahnapaaChs
namespace Go.Proofs.Ytlfiobciahnapaa
open Go Go.RowKit
theorem ch_stood : Try.prog.stoodInHeld 49 = false := by kernel_rfl
@[go_sem] theorem ch_guard : Try.prog.eqGuardType Try.prog.depth 49 = false := by kernel_rfl
theorem ch_under : Try.prog.underlying 49 = some (.struct (Try.prog.fieldsOf 49)) := by kernel_rfl
def chEqB (x y : Str) (g : Bool) (x' y' : Str) (g' : Bool) : Bool := decide (x = x' ∧ y = y' ∧ g = g')
theorem chEqB_true {f g : Ch} (h : chEqB f.1 f.2.1 f.2.2 g.1 g.2.1 g.2.2 = true) : f = g := by
  unfold chEqB at h; have := of_decide_eq_true h; exact Prod.ext this.1 (Prod.ext this.2.1 this.2.2)
theorem chEqB_false {f g : Ch} (h : chEqB f.1 f.2.1 f.2.2 g.1 g.2.1 g.2.2 = false) : f ≠ g := by
  unfold chEqB at h; have := of_decide_eq_false h; intro e; subst e; exact this ⟨rfl, rfl, rfl⟩
theorem chEqB_self (x y : Str) (g : Bool) : chEqB x y g x y g = true := decide_eq_true ⟨rfl, rfl, rfl⟩
theorem ch_eqIn (a b : Str) (g : Bool) (c d : Str) (h : Bool) (w : World) : (Op.equalIn 10000 49 (.agg #[S a, S b, .bool g]) (.agg #[S c, S d, .bool h])).run Try.prog w = .ok (chEqB a b g c d h) w := by
  have u3 := Try.underlying9
  have a3 := Try.isAgg9
  have z3 := Try.sizeOf9
  have u4 := Try.underlying4
  have a4 := Try.isAgg4
  have z4 := Try.sizeOf4
  unfold chEqB
  rw [show (10000 : Nat) = 9999 + 1 from rfl, run_equalIn_agg w 9999 49 _ _ ch_under ch_stood]
  simp only [Program.fieldsOf, Try.underlying49]
  go_simp
  by_cases h1 : a = c <;> by_cases h2 : b = d <;> cases g <;> cases h <;> simp [h1, h2]
@[go_sem high] theorem ch_eql (a b : Str) (g : Bool) (c d : Str) (h : Bool) (w : World) : (binOp .eql 49 (.agg #[S a, S b, .bool g]) (.agg #[S c, S d, .bool h])).run Try.prog w = .ok (.bool (chEqB a b g c d h)) w := by
  rw [run_eql_struct, ch_eqIn]; rfl
@[go_sem high] theorem ch_neq (a b : Str) (g : Bool) (c d : Str) (h : Bool) (w : World) : (binOp .neq 49 (.agg #[S a, S b, .bool g]) (.agg #[S c, S d, .bool h])).run Try.prog w = .ok (.bool (!chEqB a b g c d h)) w := by
  rw [run_neq_struct, ch_eqIn]; rfl
theorem SameChanges_c {w : World} {A B : Option Addr} {n m c d : Nat} {xs ys : List Ch} (h1 : SlR chF w A n xs) (h2 : SlR chF w B m ys) (hn : n ≤ 100000) (hm : m ≤ 100000) :
    Calls Try.prog 34 #[.slice A n c, .slice B m d] w fun e w' => e = .returned (.bool (decide (xs = ys))) ∧ Ext w w' := by
  by_cases hnm : n = m
  · subst hnm
    go_enter Try.func34, Try.ntmps34
    go_wp2
    go_loopw [5] (fun i wr => ∃ k : Nat, k ≤ n ∧ i = .int .i64 k ∧ xs.take k = ys.take k ∧ ∃ ξ : X w No, wr = ξ.v) (fun i _ => n - (intOf i).toNat)
    case atStart => exact ⟨0, Nat.zero_le _, rfl, rfl, X.here _ _, rfl⟩
    case round =>
      obtain ⟨k, hk, rfl, hT, ξ, rfl⟩ := hrel
      have HT := Lib.hid hT
      clear hT
      by_cases hlt : k < n
      · obtain ⟨b, o, f, rfl, hx, c0, c1, c2⟩ := chs_get h1 hlt
        obtain ⟨b', o', f', rfl, hx', c3, c4, c5⟩ := chs_get h2 hlt
        have HX := Lib.hid hx
        have HX' := Lib.hid hx'
        clear hx hx'
        go_upto_region 6 with fail
        (refine Mix.wp_draw [] 100 (Cl (w) (No)) (by kernel_rfl) (by kernel_rfl) (Cl.drew_ ξ) ?_; (repeat' (first | (refine Mix.lex_quiet0 rfl rfl rfl ?_; intro K hK; go_big_quiet_op; go_big_quiet_on) | (refine Mix.lex_quietG rfl rfl rfl (by with_reducible rfl) rfl rfl ?_; intro K hK; go_big_quiet_op; go_big_quiet_on) | ((first | refine Mix.lex_skipT rfl rfl rfl (by with_reducible rfl) ?_ | refine Mix.lex_skipF rfl rfl rfl (by with_reducible rfl) ?_ | refine Mix.lex_skipU rfl rfl rfl (by with_reducible rfl) ?_); simp only [Act.put, List.setIfInBounds_toArray, List.set_cons_succ, List.set_cons_zero]) | (refine Mix.lex_part rfl rfl rfl rfl (fun hq => ?_) (fun hq => ?_) <;> (fail_if_success (guard_hyp hq :ₛ true = true)) <;> (fail_if_success (guard_hyp hq :ₛ false = false)) <;> first | (exfalso; cases hq; done) | (exfalso; simp only [decide_eq_true_eq, decide_eq_false_iff_not, beq_iff_eq, beq_eq_false_iff_ne, ne_eq, Int.not_lt, Int.not_le] at hq; omega) | simp only [Act.put, List.setIfInBounds_toArray, List.set_cons_succ, List.set_cons_zero]))))
        all_goals (refine Mix.lex_nil ?_)
        cases hB : chEqB f.1 f.2.1 f.2.2 f'.1 f'.2.1 f'.2.2
        · go_wp2
          go_ret
          exact ⟨ret_bool (decide_eq_false (ne_at HX.out HX'.out (chEqB_false hB))).symm, ξ.h.drew⟩
        · go_wp2
          go_roundw
          case rel => exact ⟨k + 1, by omega, by go_num, take_grow HT.out HX.out HX'.out (chEqB_true hB), ⟨_, ξ.h.drew⟩, rfl⟩
          case measure => simp [intOf]; omega
      · go_wp2
        go_ret
        exact ⟨ret_bool (decide_eq_true (eq_of_take HT.out h1.1 h2.1 (by omega))).symm, ξ.h⟩
  · go_enter Try.func34, Try.ntmps34
    go_wp2
    · go_ret
      exact ⟨ret_bool (decide_eq_false (fun e => hnm (by rw [← h1.1, ← h2.1, e]))).symm, Only.refl _ _⟩
end Go.Proofs.Ytlfiobciahnapaa
