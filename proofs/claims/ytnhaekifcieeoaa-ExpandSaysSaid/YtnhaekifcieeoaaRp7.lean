/- strings.Replacer: Replace and NewReplacer. -/
import Derived.Test.YtnhaekifcieeoaaRp6
namespace Go.Proofs.Ytnhaekifcieeoaa
open Go Go.RowKit
abbrev repT : TypeId := 110
abbrev pgenT : TypeId := 159
def TrAt (u : World) (g : Nat) (a b c d : Str) : Prop := ∃ t0 n1 t1 n2 n3 n4 n5 gs, Trie u g t0 n1 t1 n2 n3 n4 n5 gs a b c d
theorem TrSt.on {w u v : World} {g t0 r : Nat} {gs : Array Value} {a b c d : Str} (hg : GsOk gs t0) (h : TrSt w g t0 gs a b c d 4 u) (hx : Only (fun x => x = r) u v) (hr : r < w.heap.size) : TrAt v g a b c d := by
  obtain ⟨n1, t1, n2, n3, n4, n5, h, h2, h3, h4, h5⟩ : ∃ n1 t1 n2 n3 n4 n5, Tr2 w u g t0 gs #[.pointer none, rpt n5, rpt n3, rpt n2, rpt n4] n1 t1 ∧ Leaf w u n1 n2 a 8 ∧ Leaf w u n1 n3 b 6 ∧ Leaf w u n1 n4 c 4 ∧ Leaf w u n1 n5 d 2 := h
  have ne : ∀ n, w.heap.size ≤ n → ¬ n = r := fun n hn e => by omega
  exact ⟨t0, n1, t1, n2, n3, n4, n5, gs, hg, h.b.gen.keep hx (ne _ h.b.hg), h.b.tab.keep hx (ne _ h.b.ht), h.c1.keep hx (ne _ h.h1), h.ct.keep hx (ne _ h.h3), h2.c.keep hx (ne _ h2.h), h3.c.keep hx (ne _ h3.h), h4.c.keep hx (ne _ h4.h), h5.c.keep hx (ne _ h5.h)⟩
set_option maxRecDepth 100000 in
set_option maxHeartbeats 1000000 in
theorem build_c {w : World} {r cp : Nat} {A : Option Addr} {x0 x1 x2 : Value} {a b c d : Str} (h : Cs w r repT #[x0, x1, x2, .nilIface, .slice A 8 cp]) (hs : SlR strF w A 8 [[36, 64], a, [36, 60], b, [36, 94], c, [36, 42], d]) :
    Calls Try.prog 77 #[rpt r] w fun e w' => ∃ g t0, e = .returned (.iface pgenT (rpt g)) ∧ TrSt w g t0 (genA (.slice (some ⟨t0, 0, none⟩) 5 5) 5 (mB 256)) a b c d 4 w' := by
  have c4 : w.cell? ⟨r, 4, none⟩ = some (.slice A 8 cp) := h.cell 4
  obtain ⟨bb, o, s, rfl, hx, c0⟩ := strs_get hs (k := 0) (by omega)
  obtain rfl : [36, 64] = s := Option.some.inj hx
  have HM := Lib.hid (makeGen_c (cp := cp) hs)
  have c00 : w.cell? ⟨bb, o, none⟩ = some (S [36, 64]) := c0 (X.here w No)
  clear h hs c0 hx
  go_enter Try.func77, Try.ntmps77
  go_wp2_with (first | (refine Mix.wpList_guarded rfl ?_; (repeat' (first | (refine Mix.lex_quiet0 rfl rfl rfl ?_; intro K hK; go_big_quiet_op; go_big_quiet_on) | (refine Mix.lex_quietG rfl rfl rfl (by with_reducible rfl) rfl rfl ?_; intro K hK; go_big_quiet_op; go_big_quiet_on) | ((first | refine Mix.lex_skipT rfl rfl rfl (by with_reducible rfl) ?_ | refine Mix.lex_skipF rfl rfl rfl (by with_reducible rfl) ?_ | refine Mix.lex_skipU rfl rfl rfl (by with_reducible rfl) ?_); simp only [Act.put, List.setIfInBounds_toArray, List.set_cons_succ, List.set_cons_zero]) | (refine Mix.lex_part rfl rfl rfl rfl (fun hq => ?_) (fun hq => ?_) <;> (fail_if_success (guard_hyp hq :ₛ true = true)) <;> (fail_if_success (guard_hyp hq :ₛ false = false)) <;> first | (exfalso; cases hq; done) | (exfalso; simp only [decide_eq_true_eq, decide_eq_false_iff_not, beq_iff_eq, beq_eq_false_iff_ne, ne_eq, Int.not_lt, Int.not_le] at hq; omega) | simp only [Act.put, List.setIfInBounds_toArray, List.set_cons_succ, List.set_cons_zero]))); all_goals (refine Mix.lex_nil ?_)) | (refine Mix.wp_still (by kernel_rfl) (by kernel_rfl) ?_; (repeat' (first | (refine Mix.lex_quiet0 rfl rfl rfl ?_; intro K hK; go_big_quiet_op; go_big_quiet_on) | (refine Mix.lex_quietG rfl rfl rfl (by with_reducible rfl) rfl rfl ?_; intro K hK; go_big_quiet_op; go_big_quiet_on) | ((first | refine Mix.lex_skipT rfl rfl rfl (by with_reducible rfl) ?_ | refine Mix.lex_skipF rfl rfl rfl (by with_reducible rfl) ?_ | refine Mix.lex_skipU rfl rfl rfl (by with_reducible rfl) ?_); simp only [Act.put, List.setIfInBounds_toArray, List.set_cons_succ, List.set_cons_zero]) | (refine Mix.lex_part rfl rfl rfl rfl (fun hq => ?_) (fun hq => ?_) <;> (fail_if_success (guard_hyp hq :ₛ true = true)) <;> (fail_if_success (guard_hyp hq :ₛ false = false)) <;> first | (exfalso; cases hq; done) | (exfalso; simp only [decide_eq_true_eq, decide_eq_false_iff_not, beq_iff_eq, beq_eq_false_iff_ne, ne_eq, Int.not_lt, Int.not_le] at hq; omega) | simp only [Act.put, List.setIfInBounds_toArray, List.set_cons_succ, List.set_cons_zero]))); all_goals (refine Mix.lex_nil ?_)))
  go_loopw [4, 5] (fun x4 x5 wr => x5 = .int .i64 0 ∧ wr = w) (fun _ _ _ => 0)
  case atStart => exact ⟨rfl, rfl⟩
  case round =>
    obtain ⟨rfl, rfl⟩ := hrel
    go_wp2_with (first | (refine Mix.wpList_guarded rfl ?_; (repeat' (first | (refine Mix.lex_quiet0 rfl rfl rfl ?_; intro K hK; go_big_quiet_op; go_big_quiet_on) | (refine Mix.lex_quietG rfl rfl rfl (by with_reducible rfl) rfl rfl ?_; intro K hK; go_big_quiet_op; go_big_quiet_on) | ((first | refine Mix.lex_skipT rfl rfl rfl (by with_reducible rfl) ?_ | refine Mix.lex_skipF rfl rfl rfl (by with_reducible rfl) ?_ | refine Mix.lex_skipU rfl rfl rfl (by with_reducible rfl) ?_); simp only [Act.put, List.setIfInBounds_toArray, List.set_cons_succ, List.set_cons_zero]) | (refine Mix.lex_part rfl rfl rfl rfl (fun hq => ?_) (fun hq => ?_) <;> (fail_if_success (guard_hyp hq :ₛ true = true)) <;> (fail_if_success (guard_hyp hq :ₛ false = false)) <;> first | (exfalso; cases hq; done) | (exfalso; simp only [decide_eq_true_eq, decide_eq_false_iff_not, beq_iff_eq, beq_eq_false_iff_ne, ne_eq, Int.not_lt, Int.not_le] at hq; omega) | simp only [Act.put, List.setIfInBounds_toArray, List.set_cons_succ, List.set_cons_zero]))); all_goals (refine Mix.lex_nil ?_)) | (refine Mix.wp_still (by kernel_rfl) (by kernel_rfl) ?_; (repeat' (first | (refine Mix.lex_quiet0 rfl rfl rfl ?_; intro K hK; go_big_quiet_op; go_big_quiet_on) | (refine Mix.lex_quietG rfl rfl rfl (by with_reducible rfl) rfl rfl ?_; intro K hK; go_big_quiet_op; go_big_quiet_on) | ((first | refine Mix.lex_skipT rfl rfl rfl (by with_reducible rfl) ?_ | refine Mix.lex_skipF rfl rfl rfl (by with_reducible rfl) ?_ | refine Mix.lex_skipU rfl rfl rfl (by with_reducible rfl) ?_); simp only [Act.put, List.setIfInBounds_toArray, List.set_cons_succ, List.set_cons_zero]) | (refine Mix.lex_part rfl rfl rfl rfl (fun hq => ?_) (fun hq => ?_) <;> (fail_if_success (guard_hyp hq :ₛ true = true)) <;> (fail_if_success (guard_hyp hq :ₛ false = false)) <;> first | (exfalso; cases hq; done) | (exfalso; simp only [decide_eq_true_eq, decide_eq_false_iff_not, beq_iff_eq, beq_eq_false_iff_ne, ne_eq, Int.not_lt, Int.not_le] at hq; omega) | simp only [Act.put, List.setIfInBounds_toArray, List.set_cons_succ, List.set_cons_zero]))); all_goals (refine Mix.lex_nil ?_)))
    refine HM.out.mono ?_
    rintro e w1 ⟨g, t0, rfl, hT⟩
    have HT := Lib.hid hT
    clear hT HM
    go_wp2_with (first | (refine Mix.wpList_guarded rfl ?_; (repeat' (first | (refine Mix.lex_quiet0 rfl rfl rfl ?_; intro K hK; go_big_quiet_op; go_big_quiet_on) | (refine Mix.lex_quietG rfl rfl rfl (by with_reducible rfl) rfl rfl ?_; intro K hK; go_big_quiet_op; go_big_quiet_on) | ((first | refine Mix.lex_skipT rfl rfl rfl (by with_reducible rfl) ?_ | refine Mix.lex_skipF rfl rfl rfl (by with_reducible rfl) ?_ | refine Mix.lex_skipU rfl rfl rfl (by with_reducible rfl) ?_); simp only [Act.put, List.setIfInBounds_toArray, List.set_cons_succ, List.set_cons_zero]) | (refine Mix.lex_part rfl rfl rfl rfl (fun hq => ?_) (fun hq => ?_) <;> (fail_if_success (guard_hyp hq :ₛ true = true)) <;> (fail_if_success (guard_hyp hq :ₛ false = false)) <;> first | (exfalso; cases hq; done) | (exfalso; simp only [decide_eq_true_eq, decide_eq_false_iff_not, beq_iff_eq, beq_eq_false_iff_ne, ne_eq, Int.not_lt, Int.not_le] at hq; omega) | simp only [Act.put, List.setIfInBounds_toArray, List.set_cons_succ, List.set_cons_zero]))); all_goals (refine Mix.lex_nil ?_)) | (refine Mix.wp_still (by kernel_rfl) (by kernel_rfl) ?_; (repeat' (first | (refine Mix.lex_quiet0 rfl rfl rfl ?_; intro K hK; go_big_quiet_op; go_big_quiet_on) | (refine Mix.lex_quietG rfl rfl rfl (by with_reducible rfl) rfl rfl ?_; intro K hK; go_big_quiet_op; go_big_quiet_on) | ((first | refine Mix.lex_skipT rfl rfl rfl (by with_reducible rfl) ?_ | refine Mix.lex_skipF rfl rfl rfl (by with_reducible rfl) ?_ | refine Mix.lex_skipU rfl rfl rfl (by with_reducible rfl) ?_); simp only [Act.put, List.setIfInBounds_toArray, List.set_cons_succ, List.set_cons_zero]) | (refine Mix.lex_part rfl rfl rfl rfl (fun hq => ?_) (fun hq => ?_) <;> (fail_if_success (guard_hyp hq :ₛ true = true)) <;> (fail_if_success (guard_hyp hq :ₛ false = false)) <;> first | (exfalso; cases hq; done) | (exfalso; simp only [decide_eq_true_eq, decide_eq_false_iff_not, beq_iff_eq, beq_eq_false_iff_ne, ne_eq, Int.not_lt, Int.not_le] at hq; omega) | simp only [Act.put, List.setIfInBounds_toArray, List.set_cons_succ, List.set_cons_zero]))); all_goals (refine Mix.lex_nil ?_)))
    go_ret
    exact ⟨g, t0, rfl, HT.out⟩
set_option maxRecDepth 100000 in
set_option maxHeartbeats 1000000 in
theorem buildOnce_c {w : World} {r cp : Nat} {A : Option Addr} {x0 x1 x2 : Value} {a b c d : Str} (h : Cs w r repT #[x0, x1, x2, .nilIface, .slice A 8 cp]) (hs : SlR strF w A 8 [[36, 64], a, [36, 60], b, [36, 94], c, [36, 42], d]) :
    Calls Try.prog 58 #[rpt r] w fun e w' => e = .returned (.tuple #[]) ∧ ∃ g, Cs w' r repT #[x0, x1, x2, .iface pgenT (rpt g), .slice none 0 0] ∧ TrAt w' g a b c d ∧ Only (fun x => x = r) w w' := by
  have HB := Lib.hid (build_c h hs)
  have H := Lib.hid h
  clear h hs
  go_enter Try.func58, Try.ntmps58
  go_wp2_with (first | (refine Mix.wpList_guarded rfl ?_; (repeat' (first | (refine Mix.lex_quiet0 rfl rfl rfl ?_; intro K hK; go_big_quiet_op; go_big_quiet_on) | (refine Mix.lex_quietG rfl rfl rfl (by with_reducible rfl) rfl rfl ?_; intro K hK; go_big_quiet_op; go_big_quiet_on) | ((first | refine Mix.lex_skipT rfl rfl rfl (by with_reducible rfl) ?_ | refine Mix.lex_skipF rfl rfl rfl (by with_reducible rfl) ?_ | refine Mix.lex_skipU rfl rfl rfl (by with_reducible rfl) ?_); simp only [Act.put, List.setIfInBounds_toArray, List.set_cons_succ, List.set_cons_zero]) | (refine Mix.lex_part rfl rfl rfl rfl (fun hq => ?_) (fun hq => ?_) <;> (fail_if_success (guard_hyp hq :ₛ true = true)) <;> (fail_if_success (guard_hyp hq :ₛ false = false)) <;> first | (exfalso; cases hq; done) | (exfalso; simp only [decide_eq_true_eq, decide_eq_false_iff_not, beq_iff_eq, beq_eq_false_iff_ne, ne_eq, Int.not_lt, Int.not_le] at hq; omega) | simp only [Act.put, List.setIfInBounds_toArray, List.set_cons_succ, List.set_cons_zero]))); all_goals (refine Mix.lex_nil ?_)) | (refine Mix.wp_still (by kernel_rfl) (by kernel_rfl) ?_; (repeat' (first | (refine Mix.lex_quiet0 rfl rfl rfl ?_; intro K hK; go_big_quiet_op; go_big_quiet_on) | (refine Mix.lex_quietG rfl rfl rfl (by with_reducible rfl) rfl rfl ?_; intro K hK; go_big_quiet_op; go_big_quiet_on) | ((first | refine Mix.lex_skipT rfl rfl rfl (by with_reducible rfl) ?_ | refine Mix.lex_skipF rfl rfl rfl (by with_reducible rfl) ?_ | refine Mix.lex_skipU rfl rfl rfl (by with_reducible rfl) ?_); simp only [Act.put, List.setIfInBounds_toArray, List.set_cons_succ, List.set_cons_zero]) | (refine Mix.lex_part rfl rfl rfl rfl (fun hq => ?_) (fun hq => ?_) <;> (fail_if_success (guard_hyp hq :ₛ true = true)) <;> (fail_if_success (guard_hyp hq :ₛ false = false)) <;> first | (exfalso; cases hq; done) | (exfalso; simp only [decide_eq_true_eq, decide_eq_false_iff_not, beq_iff_eq, beq_eq_false_iff_ne, ne_eq, Int.not_lt, Int.not_le] at hq; omega) | simp only [Act.put, List.setIfInBounds_toArray, List.set_cons_succ, List.set_cons_zero]))); all_goals (refine Mix.lex_nil ?_)))
  refine HB.out.mono ?_
  rintro e w1 ⟨g, t0, rfl, hT⟩
  have h1 := H.out.keep hT.x id
  have c3 : w1.cell? ⟨r, 3, none⟩ = some .nilIface := h1.cell 3
  have c4 : w1.cell? ⟨r, 4, none⟩ = some (.slice A 8 cp) := h1.cell 4
  have z3 := h1.frozen 3
  have z4 := h1.frozen 4
  have HO : Hid (Only (fun x => x = r) w1 ((w1.setCell ⟨r, 3, none⟩ (.iface pgenT (rpt g))).setCell ⟨r, 4, none⟩ (.slice none 0 0))) := ((Only.refl _ w1).at_ 3 _).at_ 4 _
  have HC : Hid (Cs ((w1.setCell ⟨r, 3, none⟩ (.iface pgenT (rpt g))).setCell ⟨r, 4, none⟩ (.slice none 0 0)) r repT #[x0, x1, x2, .iface pgenT (rpt g), .slice none 0 0]) := (h1.set_ 3 _).set_ 4 _
  have HT := Lib.hid hT
  clear hT h1 HB
  go_wp2_with (first | (refine Mix.wpList_guarded rfl ?_; (repeat' (first | (refine Mix.lex_quiet0 rfl rfl rfl ?_; intro K hK; go_big_quiet_op; go_big_quiet_on) | (refine Mix.lex_quietG rfl rfl rfl (by with_reducible rfl) rfl rfl ?_; intro K hK; go_big_quiet_op; go_big_quiet_on) | ((first | refine Mix.lex_skipT rfl rfl rfl (by with_reducible rfl) ?_ | refine Mix.lex_skipF rfl rfl rfl (by with_reducible rfl) ?_ | refine Mix.lex_skipU rfl rfl rfl (by with_reducible rfl) ?_); simp only [Act.put, List.setIfInBounds_toArray, List.set_cons_succ, List.set_cons_zero]) | (refine Mix.lex_part rfl rfl rfl rfl (fun hq => ?_) (fun hq => ?_) <;> (fail_if_success (guard_hyp hq :ₛ true = true)) <;> (fail_if_success (guard_hyp hq :ₛ false = false)) <;> first | (exfalso; cases hq; done) | (exfalso; simp only [decide_eq_true_eq, decide_eq_false_iff_not, beq_iff_eq, beq_eq_false_iff_ne, ne_eq, Int.not_lt, Int.not_le] at hq; omega) | simp only [Act.put, List.setIfInBounds_toArray, List.set_cons_succ, List.set_cons_zero]))); all_goals (refine Mix.lex_nil ?_)) | (refine Mix.wp_still (by kernel_rfl) (by kernel_rfl) ?_; (repeat' (first | (refine Mix.lex_quiet0 rfl rfl rfl ?_; intro K hK; go_big_quiet_op; go_big_quiet_on) | (refine Mix.lex_quietG rfl rfl rfl (by with_reducible rfl) rfl rfl ?_; intro K hK; go_big_quiet_op; go_big_quiet_on) | ((first | refine Mix.lex_skipT rfl rfl rfl (by with_reducible rfl) ?_ | refine Mix.lex_skipF rfl rfl rfl (by with_reducible rfl) ?_ | refine Mix.lex_skipU rfl rfl rfl (by with_reducible rfl) ?_); simp only [Act.put, List.setIfInBounds_toArray, List.set_cons_succ, List.set_cons_zero]) | (refine Mix.lex_part rfl rfl rfl rfl (fun hq => ?_) (fun hq => ?_) <;> (fail_if_success (guard_hyp hq :ₛ true = true)) <;> (fail_if_success (guard_hyp hq :ₛ false = false)) <;> first | (exfalso; cases hq; done) | (exfalso; simp only [decide_eq_true_eq, decide_eq_false_iff_not, beq_iff_eq, beq_eq_false_iff_ne, ne_eq, Int.not_lt, Int.not_le] at hq; omega) | simp only [Act.put, List.setIfInBounds_toArray, List.set_cons_succ, List.set_cons_zero]))); all_goals (refine Mix.lex_nil ?_)))
  go_end0
  exact ⟨rfl, g, HC.out, HT.out.on (gs_ok t0) HO.out H.out.lt, HT.out.x.any.trans HO.out fun _ _ e => e⟩
theorem on_load {w : World} (a : Addr) (x : Int) (h : w.cell? a = some (.int .u32 x)) : Calls Try.prog 75 #[.pointer (some a)] w fun e w' => e = .returned (.bool (x != 0)) ∧ w' = w := by
  have hl := run_call_load (P := Try.prog) Try.func96 (by kernel_rfl) (by kernel_rfl) (by kernel_rfl) .u32 (by kernel_rfl) h
  go_enter Try.func75, Try.ntmps75
  go_wp2_with (first | (refine Mix.wpList_guarded rfl ?_; (repeat' (first | (refine Mix.lex_quiet0 rfl rfl rfl ?_; intro K hK; go_big_quiet_op; go_big_quiet_on) | (refine Mix.lex_quietG rfl rfl rfl (by with_reducible rfl) rfl rfl ?_; intro K hK; go_big_quiet_op; go_big_quiet_on) | ((first | refine Mix.lex_skipT rfl rfl rfl (by with_reducible rfl) ?_ | refine Mix.lex_skipF rfl rfl rfl (by with_reducible rfl) ?_ | refine Mix.lex_skipU rfl rfl rfl (by with_reducible rfl) ?_); simp only [Act.put, List.setIfInBounds_toArray, List.set_cons_succ, List.set_cons_zero]) | (refine Mix.lex_part rfl rfl rfl rfl (fun hq => ?_) (fun hq => ?_) <;> (fail_if_success (guard_hyp hq :ₛ true = true)) <;> (fail_if_success (guard_hyp hq :ₛ false = false)) <;> first | (exfalso; cases hq; done) | (exfalso; simp only [decide_eq_true_eq, decide_eq_false_iff_not, beq_iff_eq, beq_eq_false_iff_ne, ne_eq, Int.not_lt, Int.not_le] at hq; omega) | simp only [Act.put, List.setIfInBounds_toArray, List.set_cons_succ, List.set_cons_zero]))); all_goals (refine Mix.lex_nil ?_)) | (refine Mix.wp_still (by kernel_rfl) (by kernel_rfl) ?_; (repeat' (first | (refine Mix.lex_quiet0 rfl rfl rfl ?_; intro K hK; go_big_quiet_op; go_big_quiet_on) | (refine Mix.lex_quietG rfl rfl rfl (by with_reducible rfl) rfl rfl ?_; intro K hK; go_big_quiet_op; go_big_quiet_on) | ((first | refine Mix.lex_skipT rfl rfl rfl (by with_reducible rfl) ?_ | refine Mix.lex_skipF rfl rfl rfl (by with_reducible rfl) ?_ | refine Mix.lex_skipU rfl rfl rfl (by with_reducible rfl) ?_); simp only [Act.put, List.setIfInBounds_toArray, List.set_cons_succ, List.set_cons_zero]) | (refine Mix.lex_part rfl rfl rfl rfl (fun hq => ?_) (fun hq => ?_) <;> (fail_if_success (guard_hyp hq :ₛ true = true)) <;> (fail_if_success (guard_hyp hq :ₛ false = false)) <;> first | (exfalso; cases hq; done) | (exfalso; simp only [decide_eq_true_eq, decide_eq_false_iff_not, beq_iff_eq, beq_eq_false_iff_ne, ne_eq, Int.not_lt, Int.not_le] at hq; omega) | simp only [Act.put, List.setIfInBounds_toArray, List.set_cons_succ, List.set_cons_zero]))); all_goals (refine Mix.lex_nil ?_)))
  go_ret
  exact ⟨rfl, rfl⟩
theorem TrAt.only {u v : World} {g : Nat} {a b c d : Str} {r : Nat} {cs : Array Value} (h : TrAt u g a b c d) (hr : Cs u r repT cs) (hx : Only (fun x => x = r) u v) : TrAt v g a b c d := by
  obtain ⟨t0, n1, t1, n2, n3, n4, n5, gs, h⟩ := h
  have ne : ∀ {n t ds}, Cs u n t ds → t ≠ repT → ¬ n = r := fun hc ht e => (hc.ne_ hr ht) e
  exact ⟨t0, n1, t1, n2, n3, n4, n5, gs, h.ok, h.gen.keep hx (ne h.gen (by decide)), h.tab.keep hx (ne h.tab (by decide)), h.c1.keep hx (ne h.c1 (by decide)), h.ct.keep hx (ne h.ct (by decide)), h.l2.keep hx (ne h.l2 (by decide)), h.l3.keep hx (ne h.l3 (by decide)), h.l4.keep hx (ne h.l4 (by decide)), h.l5.keep hx (ne h.l5 (by decide))⟩
def DoneR (w : World) (r : Nat) (x2 : Value) (a b c d : Str) (w' : World) : Prop := ∃ g, Cs w' r repT #[.int .u32 1, .int .i32 0, x2, .iface pgenT (rpt g), .slice none 0 0] ∧ TrAt w' g a b c d ∧ Only (fun x => x = r) w w'
set_option maxRecDepth 100000 in
set_option maxHeartbeats 1600000 in
theorem slow_c {w : World} {r cp : Nat} {A : Option Addr} {x2 : Value} {a b c d : Str} (h : Cs w r repT #[.int .u32 0, .int .i32 0, x2, .nilIface, .slice A 8 cp]) (hs : ∀ v, Only (fun x => x = r) w v → SlR strF v A 8 [[36, 64], a, [36, 60], b, [36, 94], c, [36, 42], d]) :
    Calls Try.prog 76 #[rpt r, .func (.func 58) #[rpt r] #[]] w fun e w' => e = .returned (.tuple #[]) ∧ DoneR w r x2 a b c d w' := by
  have h0 : w.cell? ⟨r, 0, none⟩ = some (.int .u32 0) := h.cell 0
  have h1 : w.cell? ⟨r, 1, none⟩ = some (.int .i32 0) := h.cell 1
  have f1 := h.frozen 1
  obtain ⟨w1, hw1⟩ : ∃ u, u = w.setCell ⟨r, 1, none⟩ (.int .i32 1) := ⟨_, rfl⟩
  have x1 : Only (fun x => x = r) w w1 := by rw [hw1]; exact (Only.refl _ w).at_ 1 _
  have C1 : Cs w1 r repT #[.int .u32 0, .int .i32 1, x2, .nilIface, .slice A 8 cp] := by rw [hw1]; exact h.set_ 1 _
  have HLd := Lib.hid (on_load (w := w1) ⟨r, 0, none⟩ 0 (C1.cell 0))
  have HBo := Lib.hid (buildOnce_c C1 (hs w1 x1))
  have X1 := Lib.hid x1
  have hnot : ∀ (x : Bool) (w : World), (Op.unary .not (.bool x)).run Try.prog w = .ok (.bool (!x)) w := fun _ _ => rfl
  clear h hs C1 x1
  go_enter_defers Try.func76, Try.ntmps76
  go_wp2_with (go_at_call 97; refine (on_lock ⟨r, 1, none⟩ _ (by go_simp) (by go_simp)).mono ?_; rintro e w' ⟨rfl, rfl⟩)
  rw [← hw1]
  clear hw1 h0 h1 f1
  refine HLd.out.mono ?_
  rintro e u ⟨rfl, rfl⟩
  go_wp2_with fail
  refine HBo.out.mono ?_
  rintro e w2 ⟨rfl, g, hC, hT, hO⟩
  have X2 : Hid (Only (fun x => x = r) w w2) := X1.out.trans hO fun _ _ e => e
  have HC := Lib.hid hC
  have HT := Lib.hid hT
  clear hC hT hO HBo HLd X1
  go_wp2_with fail
  refine leaves_cons (f := 99) (args := #[.pointer (some ⟨r, 0, none⟩), .bool true]) (by simp) (by simp [go_sem]) ?_
  refine (on_store ⟨r, 0, none⟩ (.int .u32 0) .returning _ (HC.out.cell 0) (HC.out.frozen 0)).mono ?_
  rintro e u' w3 ⟨rfl, rfl, rfl⟩
  refine leaves_cons (f := 98) (args := #[.pointer (some ⟨r, 1, none⟩)]) (by simp [settle]) (by simp [go_sem]) ?_
  have C3 : Cs (w2.drew.setCell ⟨r, 0, none⟩ (.int .u32 1)) r repT #[.int .u32 1, .int .i32 1, x2, .iface pgenT (rpt g), .slice none 0 0] := HC.out.drew.set_ 0 _
  refine (on_unlock ⟨r, 1, none⟩ _ _ (C3.cell 1) (C3.frozen 1)).mono ?_
  rintro e u' w4 ⟨rfl, rfl, rfl⟩
  have O4 : Only (fun x => x = r) w2 ((w2.drew.setCell ⟨r, 0, none⟩ (.int .u32 1)).setCell ⟨r, 1, none⟩ (.int .i32 0)) := ((Only.refl _ w2).drew.at_ 0 _).at_ 1 _
  have HD : Hid (DoneR w r x2 a b c d ((w2.drew.setCell ⟨r, 0, none⟩ (.int .u32 1)).setCell ⟨r, 1, none⟩ (.int .i32 0))) := ⟨g, C3.set_ 1 _, HT.out.only HC.out O4, X2.out.trans O4 fun _ _ e => e⟩
  simp [Leaves, settle, results, Try.results76]
  exact HD.out
set_option maxRecDepth 100000 in
set_option maxHeartbeats 1600000 in
theorem do_c {w : World} {r cp : Nat} {A : Option Addr} {x2 : Value} {a b c d : Str} (h : Cs w r repT #[.int .u32 0, .int .i32 0, x2, .nilIface, .slice A 8 cp]) (hs : ∀ v, Only (fun x => x = r) w v → SlR strF v A 8 [[36, 64], a, [36, 60], b, [36, 94], c, [36, 42], d]) :
    Calls Try.prog 57 #[rpt r, .func (.func 58) #[rpt r] #[]] w fun e w' => e = .returned (.tuple #[]) ∧ DoneR w r x2 a b c d w' := by
  have HLd := Lib.hid (on_load (w := w) ⟨r, 0, none⟩ 0 (h.cell 0))
  have HS := Lib.hid (slow_c h hs)
  have hnot : ∀ (x : Bool) (w : World), (Op.unary .not (.bool x)).run Try.prog w = .ok (.bool (!x)) w := fun _ _ => rfl
  clear h hs
  go_enter Try.func57, Try.ntmps57
  go_wp2_with fail
  refine HLd.out.mono ?_
  rintro e u ⟨rfl, rfl⟩
  go_wp2_with fail
  refine HS.out.mono ?_
  rintro e w1 ⟨rfl, hD⟩
  have HD := Lib.hid hD
  clear hD HS HLd
  go_wp2_with fail
  go_end0
  exact ⟨rfl, HD.out⟩
end Go.Proofs.Ytnhaekifcieeoaa
