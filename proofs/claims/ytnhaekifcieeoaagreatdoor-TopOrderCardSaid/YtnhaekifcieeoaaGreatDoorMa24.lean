/- Put together: Rp4, Own3. -/
import Derived.OwnWalk
import Derived.Test.YtnhaekifcieeoaaGreatDoorMa23
import Derived.Test.YtnhaekifcieeoaaGreatDoorMa08
/- strings.Replacer: lookup. -/
namespace Go.Proofs.YtnhaekifcieeoaaGreatDoor
open Go Go.RowKit
/-- What a lookup reads. -/
structure Trie (w : World) (g t0 n1 t1 n2 n3 n4 n5 : Nat) (gs : Array Value) (a b c d : Str) : Prop where
  ok : GsOk gs t0
  gen : Cs w g genT gs
  tab : Cs w t0 pnT #[rpt n1, .pointer none, .pointer none, .pointer none, .pointer none]
  c1 : Cs w n1 nodT #[S [], .int .i64 0, S [], .pointer none, .slice (some ⟨t1, 0, none⟩) 5 5]
  ct : Cs w t1 pnT #[.pointer none, rpt n5, rpt n3, rpt n2, rpt n4]
  l2 : Cs w n2 nodT (leafA a 8)
  l3 : Cs w n3 nodT (leafA b 6)
  l4 : Cs w n4 nodT (leafA c 4)
  l5 : Cs w n5 nodT (leafA d 2)
theorem TrSt.trie {w u : World} {g t0 : Nat} {gs : Array Value} {a b c d : Str} (hg : GsOk gs t0) (h : TrSt w g t0 gs a b c d 4 u) : ∃ n1 t1 n2 n3 n4 n5, Trie u g t0 n1 t1 n2 n3 n4 n5 gs a b c d := by
  obtain ⟨n1, t1, n2, n3, n4, n5, h, h2, h3, h4, h5⟩ : ∃ n1 t1 n2 n3 n4 n5, Tr2 w u g t0 gs #[.pointer none, rpt n5, rpt n3, rpt n2, rpt n4] n1 t1 ∧ Leaf w u n1 n2 a 8 ∧ Leaf w u n1 n3 b 6 ∧ Leaf w u n1 n4 c 4 ∧ Leaf w u n1 n5 d 2 := h
  exact ⟨n1, t1, n2, n3, n4, n5, hg, h.b.gen, h.b.tab, h.c1, h.ct, h2.c, h3.c, h4.c, h5.c⟩
section
variable {w u : World} {g t0 n1 t1 n2 n3 n4 n5 : Nat} {gs : Array Value} {a b c d : Str}
theorem Trie.ext (h : Trie w g t0 n1 t1 n2 n3 n4 n5 gs a b c d) (hx : Ext w u) : Trie u g t0 n1 t1 n2 n3 n4 n5 gs a b c d :=
  ⟨h.ok, h.gen.keep hx id, h.tab.keep hx id, h.c1.keep hx id, h.ct.keep hx id, h.l2.keep hx id, h.l3.keep hx id, h.l4.keep hx id, h.l5.keep hx id⟩
/-- What the mapping and the first table say of a byte. -/
theorem Trie.root (h : Trie w g t0 n1 t1 n2 n3 n4 n5 gs a b c d) (x : UInt8) : ∃ m : Nat, gs[6 + x.toNat]? = some (.int .u8 m) ∧
    ((m = 5 ∧ x ≠ 36) ∨ (m < 5 ∧ x = 36 ∧ w.cell? ⟨t0, m, none⟩ = some (rpt n1)) ∨ (m < 5 ∧ x ≠ 36 ∧ w.cell? ⟨t0, m, none⟩ = some (.pointer none))) := by
  by_cases e1 : x = 36
  · subst e1; exact ⟨0, h.ok.m36, .inr (.inl ⟨by omega, rfl, h.tab.cell 0⟩)⟩
  by_cases e2 : x = 42
  · subst e2; exact ⟨1, h.ok.m42, .inr (.inr ⟨by omega, by decide, h.tab.cell 1⟩)⟩
  by_cases e3 : x = 60
  · subst e3; exact ⟨2, h.ok.m60, .inr (.inr ⟨by omega, by decide, h.tab.cell 2⟩)⟩
  by_cases e4 : x = 64
  · subst e4; exact ⟨3, h.ok.m64, .inr (.inr ⟨by omega, by decide, h.tab.cell 3⟩)⟩
  by_cases e5 : x = 94
  · subst e5; exact ⟨4, h.ok.m94, .inr (.inr ⟨by omega, by decide, h.tab.cell 4⟩)⟩
  · exact ⟨5, h.ok.mo x e1 e2 e3 e4 e5, .inl ⟨rfl, e1⟩⟩
/-- What the second table says of a byte. -/
theorem Trie.next (h : Trie w g t0 n1 t1 n2 n3 n4 n5 gs a b c d) (x : UInt8) : ∃ m : Nat, gs[6 + x.toNat]? = some (.int .u8 m) ∧
    ((m = 5 ∧ keyV a b c d x = none) ∨ (m < 5 ∧ keyV a b c d x = none ∧ w.cell? ⟨t1, m, none⟩ = some (.pointer none)) ∨
     (m < 5 ∧ ∃ k t p, keyV a b c d x = some t ∧ w.cell? ⟨t1, m, none⟩ = some (rpt k) ∧ Cs w k nodT (leafA t p) ∧ (0 : Int) < p)) := by
  by_cases e1 : x = 36
  · subst e1; exact ⟨0, h.ok.m36, .inr (.inl ⟨by omega, rfl, h.ct.cell 0⟩)⟩
  by_cases e2 : x = 42
  · subst e2; exact ⟨1, h.ok.m42, .inr (.inr ⟨by omega, n5, d, 2, rfl, h.ct.cell 1, h.l5, by decide⟩)⟩
  by_cases e3 : x = 60
  · subst e3; exact ⟨2, h.ok.m60, .inr (.inr ⟨by omega, n3, b, 6, rfl, h.ct.cell 2, h.l3, by decide⟩)⟩
  by_cases e4 : x = 64
  · subst e4; exact ⟨3, h.ok.m64, .inr (.inr ⟨by omega, n2, a, 8, rfl, h.ct.cell 3, h.l2, by decide⟩)⟩
  by_cases e5 : x = 94
  · subst e5; exact ⟨4, h.ok.m94, .inr (.inr ⟨by omega, n4, c, 4, rfl, h.ct.cell 4, h.l4, by decide⟩)⟩
  · exact ⟨5, h.ok.mo x e1 e2 e3 e4 e5, .inl ⟨rfl, by unfold keyV; rw [if_neg e4, if_neg e3, if_neg e5, if_neg e2]⟩⟩
end
/-- Where a lookup is. -/
def LkR (w : World) (g n1 : Nat) (v : KeyV) (s : Str) (x1 x6 x7 x8 x9 x10 x11 : Value) : Prop :=
  x6 = S [] ∧ x7 = .int .i64 0 ∧ x8 = .bool false ∧ x9 = .int .i64 0 ∧
  ((x1 = S s ∧ x10 = rpt g ∧ x11 = .int .i64 0) ∨ (∃ r, s = 36 :: r ∧ x1 = S r ∧ x10 = rpt n1 ∧ x11 = .int .i64 1) ∨
   (∃ r q, lookF v s = none ∧ x1 = S r ∧ x10 = .pointer none ∧ x11 = .int .i64 q ∧ 0 ≤ q ∧ q ≤ 3) ∨
   (∃ r t k p, lookF v s = some t ∧ Cs w k nodT (leafA t p) ∧ (0 : Int) < p ∧ x1 = S r ∧ x10 = rpt k ∧ x11 = .int .i64 2))
def lookV (v : KeyV) (s : Str) : Value := match lookF v s with | some t => .tuple #[S t, .int .i64 2, .bool true] | none => .tuple #[S [], .int .i64 0, .bool false]
theorem lookV_none {v : KeyV} {s : Str} (h : lookF v s = none) : lookV v s = .tuple #[S [], .int .i64 0, .bool false] := by unfold lookV; rw [h]
theorem lookV_some {v : KeyV} {s t : Str} (h : lookF v s = some t) : lookV v s = .tuple #[S t, .int .i64 2, .bool true] := by unfold lookV; rw [h]
theorem lookF_ne {v : KeyV} {x : UInt8} {r : Str} (h : x ≠ 36) : lookF v (x :: r) = none := by
  cases r with
  | nil => rfl
  | cons y r => unfold lookF; simp [h]
theorem lookF_36 {v : KeyV} {y : UInt8} {r : Str} : lookF v (36 :: y :: r) = v y := by simp [lookF]
set_option maxRecDepth 100000 in
set_option maxHeartbeats 4000000 in
theorem Lookup_c {w : World} {g t0 n1 t1 n2 n3 n4 n5 : Nat} {gs : Array Value} {a b c d : Str} (h : Trie w g t0 n1 t1 n2 n3 n4 n5 gs a b c d) (s : Str) (hs : s.length ≤ 1000000) :
    Calls Tryz.prog 236 #[rpt g, S s, .bool false] w fun e w' => e = .returned (lookV (keyV a b c d) s) ∧ Ext w w' := by
  have H := Lib.hid h
  have g1 : ∀ ξ : X w No, ξ.v.cell? ⟨g, 1, none⟩ = some (.int .i64 0) := fun ξ => (h.gen.x (F := No) id 1 ξ).trans h.ok.p1
  have g2 : ∀ ξ : X w No, ξ.v.cell? ⟨g, 2, none⟩ = some (S []) := fun ξ => (h.gen.x (F := No) id 2 ξ).trans h.ok.p2
  have g4 : ∀ ξ : X w No, ξ.v.cell? ⟨g, 4, none⟩ = some (.slice (some ⟨t0, 0, none⟩) 5 5) := fun ξ => (h.gen.x (F := No) id 4 ξ).trans h.ok.p4
  have g5 : ∀ ξ : X w No, ξ.v.cell? ⟨g, 5, none⟩ = some (.int .i64 5) := fun ξ => (h.gen.x (F := No) id 5 ξ).trans h.ok.p5
  have k1 : ∀ ξ : X w No, ξ.v.cell? ⟨n1, 1, none⟩ = some (.int .i64 0) := h.c1.x (F := No) id 1
  have k4 : ∀ ξ : X w No, ξ.v.cell? ⟨n1, 4, none⟩ = some (.slice (some ⟨t1, 0, none⟩) 5 5) := h.c1.x (F := No) id 4
  clear h
  go_enter Tryz.func236, Tryz.ntmps236
  go_wp2_with (first | ((first | refine Mix.wpList_guarded rfl ?_ | refine Mix.wp_still (by kernel_rfl) (by kernel_rfl) ?_); (repeat' (first | (refine Mix.lex_quiet0 rfl rfl rfl ?_; intro K hK; go_big_quiet_op; go_big_quiet_on) | (refine Mix.lex_quietG rfl rfl rfl (by with_reducible rfl) rfl rfl ?_; intro K hK; go_big_quiet_op; go_big_quiet_on) | ((first | refine Mix.lex_skipT rfl rfl rfl (by with_reducible rfl) ?_ | refine Mix.lex_skipF rfl rfl rfl (by with_reducible rfl) ?_ | refine Mix.lex_skipU rfl rfl rfl (by with_reducible rfl) ?_); simp only [Act.put, List.setIfInBounds_toArray, List.set_cons_succ, List.set_cons_zero]) | (refine Mix.lex_part rfl rfl rfl rfl (fun hq => ?_) (fun hq => ?_) <;> (fail_if_success (guard_hyp hq :ₛ true = true)) <;> (fail_if_success (guard_hyp hq :ₛ false = false)) <;> first | (exfalso; cases hq; done) | (exfalso; simp only [decide_eq_true_eq, decide_eq_false_iff_not, beq_iff_eq, beq_eq_false_iff_ne, ne_eq, Int.not_lt, Int.not_le] at hq; omega) | simp only [Act.put, List.setIfInBounds_toArray, List.set_cons_succ, List.set_cons_zero]))); all_goals (refine Mix.lex_nil ?_)))
  go_loopw [1, 6, 7, 8, 9, 10, 11] (fun x1 x6 x7 x8 x9 x10 x11 wr => LkR w g n1 (keyV a b c d) s x1 x6 x7 x8 x9 x10 x11 ∧ ∃ ξ : X w No, wr = ξ.v) (fun _ _ _ _ _ _ x11 _ => 3 - (intOf x11).toNat)
  case atStart => exact ⟨⟨rfl, rfl, rfl, rfl, .inl ⟨rfl, rfl, rfl⟩⟩, X.here _ _, rfl⟩
  case round =>
    obtain ⟨⟨rfl, rfl, rfl, rfl, hL⟩, ξ, rfl⟩ := hrel
    rcases hL with ⟨rfl, rfl, rfl⟩ | ⟨r, hs1, rfl, rfl, rfl⟩ | ⟨r, q, hn, rfl, rfl, rfl, hq0, hq3⟩ | ⟨r, t, k, p, ht, hk, hp, rfl, rfl, rfl⟩
    · cases s with
      | nil =>
        go_wp2_with (first | ((first | refine Mix.wpList_guarded rfl ?_ | refine Mix.wp_still (by kernel_rfl) (by kernel_rfl) ?_); (repeat' (first | (refine Mix.lex_quiet0 rfl rfl rfl ?_; intro K hK; go_big_quiet_op; go_big_quiet_on) | (refine Mix.lex_quietG rfl rfl rfl (by with_reducible rfl) rfl rfl ?_; intro K hK; go_big_quiet_op; go_big_quiet_on) | ((first | refine Mix.lex_skipT rfl rfl rfl (by with_reducible rfl) ?_ | refine Mix.lex_skipF rfl rfl rfl (by with_reducible rfl) ?_ | refine Mix.lex_skipU rfl rfl rfl (by with_reducible rfl) ?_); simp only [Act.put, List.setIfInBounds_toArray, List.set_cons_succ, List.set_cons_zero]) | (refine Mix.lex_part rfl rfl rfl rfl (fun hq => ?_) (fun hq => ?_) <;> (fail_if_success (guard_hyp hq :ₛ true = true)) <;> (fail_if_success (guard_hyp hq :ₛ false = false)) <;> first | (exfalso; cases hq; done) | (exfalso; simp only [decide_eq_true_eq, decide_eq_false_iff_not, beq_iff_eq, beq_eq_false_iff_ne, ne_eq, Int.not_lt, Int.not_le] at hq; omega) | simp only [Act.put, List.setIfInBounds_toArray, List.set_cons_succ, List.set_cons_zero]))); all_goals (refine Mix.lex_nil ?_)))
        go_ret3
        exact ⟨congrArg Ending.returned (lookV_none rfl).symm, ξ.h⟩
      | cons x r =>
        obtain ⟨m, hm, hM⟩ := H.out.root x
        have hx8 : x.toNat < 256 := x.toNat_lt
        have cm : ∀ ξ : X w No, ξ.v.cell? ⟨g, 6 + x.toNat, none⟩ = some (.int .u8 m) := fun ξ => (H.out.gen.x (F := No) id (6 + x.toNat) ξ).trans hm
        clear hm
        go_upto_region 12 with fail
        (refine Mix.wp_draw [] 100 (Cl (w) (No)) (by kernel_rfl) (by kernel_rfl) (Cl.drew_ ξ) ?_; (repeat' (first | (refine Mix.lex_quiet0 rfl rfl rfl ?_; intro K hK; go_big_quiet_op; go_big_quiet_on) | (refine Mix.lex_quietG rfl rfl rfl (by with_reducible rfl) rfl rfl ?_; intro K hK; go_big_quiet_op; go_big_quiet_on) | ((first | refine Mix.lex_skipT rfl rfl rfl (by with_reducible rfl) ?_ | refine Mix.lex_skipF rfl rfl rfl (by with_reducible rfl) ?_ | refine Mix.lex_skipU rfl rfl rfl (by with_reducible rfl) ?_); simp only [Act.put, List.setIfInBounds_toArray, List.set_cons_succ, List.set_cons_zero]) | (refine Mix.lex_part rfl rfl rfl rfl (fun hq => ?_) (fun hq => ?_) <;> (fail_if_success (guard_hyp hq :ₛ true = true)) <;> (fail_if_success (guard_hyp hq :ₛ false = false)) <;> first | (exfalso; cases hq; done) | (exfalso; simp only [decide_eq_true_eq, decide_eq_false_iff_not, beq_iff_eq, beq_eq_false_iff_ne, ne_eq, Int.not_lt, Int.not_le] at hq; omega) | simp only [Act.put, List.setIfInBounds_toArray, List.set_cons_succ, List.set_cons_zero]))))
        all_goals (refine Mix.lex_nil ?_)
        obtain ⟨ζ, hζ⟩ : ∃ ζ : X w No, ζ.v = ξ.v.drew := ⟨⟨ξ.v.drew, ξ.h.drew⟩, rfl⟩
        rw [← hζ]
        rcases hM with ⟨rfl, hx⟩ | ⟨hm5, hx, hc⟩ | ⟨hm5, hx, hc⟩
        · have HX := Lib.hid hx
          clear hζ hx
          go_wp2_with (first | ((first | refine Mix.wpList_guarded rfl ?_ | refine Mix.wp_still (by kernel_rfl) (by kernel_rfl) ?_); (repeat' (first | (refine Mix.lex_quiet0 rfl rfl rfl ?_; intro K hK; go_big_quiet_op; go_big_quiet_on) | (refine Mix.lex_quietG rfl rfl rfl (by with_reducible rfl) rfl rfl ?_; intro K hK; go_big_quiet_op; go_big_quiet_on) | ((first | refine Mix.lex_skipT rfl rfl rfl (by with_reducible rfl) ?_ | refine Mix.lex_skipF rfl rfl rfl (by with_reducible rfl) ?_ | refine Mix.lex_skipU rfl rfl rfl (by with_reducible rfl) ?_); simp only [Act.put, List.setIfInBounds_toArray, List.set_cons_succ, List.set_cons_zero]) | (refine Mix.lex_part rfl rfl rfl rfl (fun hq => ?_) (fun hq => ?_) <;> (fail_if_success (guard_hyp hq :ₛ true = true)) <;> (fail_if_success (guard_hyp hq :ₛ false = false)) <;> first | (exfalso; cases hq; done) | (exfalso; simp only [decide_eq_true_eq, decide_eq_false_iff_not, beq_iff_eq, beq_eq_false_iff_ne, ne_eq, Int.not_lt, Int.not_le] at hq; omega) | simp only [Act.put, List.setIfInBounds_toArray, List.set_cons_succ, List.set_cons_zero]))); all_goals (refine Mix.lex_nil ?_)))
          go_ret3
          exact ⟨congrArg Ending.returned (lookV_none (lookF_ne HX.out)).symm, ζ.h⟩
        · have hc : ζ.v.cell? ⟨t0, m, none⟩ = some (rpt n1) := (ζ.h.cell (World.block_lt_of_cell? _ _ hc) id).trans hc
          have hne : ¬ ((m : Int) = 5) := by omega
          have HX := Lib.hid hx
          clear hζ hx
          go_wp2_with (first | ((first | refine Mix.wpList_guarded rfl ?_ | refine Mix.wp_still (by kernel_rfl) (by kernel_rfl) ?_); (repeat' (first | (refine Mix.lex_quiet0 rfl rfl rfl ?_; intro K hK; go_big_quiet_op; go_big_quiet_on) | (refine Mix.lex_quietG rfl rfl rfl (by with_reducible rfl) rfl rfl ?_; intro K hK; go_big_quiet_op; go_big_quiet_on) | ((first | refine Mix.lex_skipT rfl rfl rfl (by with_reducible rfl) ?_ | refine Mix.lex_skipF rfl rfl rfl (by with_reducible rfl) ?_ | refine Mix.lex_skipU rfl rfl rfl (by with_reducible rfl) ?_); simp only [Act.put, List.setIfInBounds_toArray, List.set_cons_succ, List.set_cons_zero]) | (refine Mix.lex_part rfl rfl rfl rfl (fun hq => ?_) (fun hq => ?_) <;> (fail_if_success (guard_hyp hq :ₛ true = true)) <;> (fail_if_success (guard_hyp hq :ₛ false = false)) <;> first | (exfalso; cases hq; done) | (exfalso; simp only [decide_eq_true_eq, decide_eq_false_iff_not, beq_iff_eq, beq_eq_false_iff_ne, ne_eq, Int.not_lt, Int.not_le] at hq; omega) | simp only [Act.put, List.setIfInBounds_toArray, List.set_cons_succ, List.set_cons_zero]))); all_goals (refine Mix.lex_nil ?_)))
          go_roundw
          case rel => exact ⟨⟨rfl, rfl, rfl, rfl, .inr (.inl ⟨r, by rw [HX.out], rfl, rfl, rfl⟩)⟩, ζ, rfl⟩
          case measure => simp [intOf]
        · have hc : ζ.v.cell? ⟨t0, m, none⟩ = some (.pointer none) := (ζ.h.cell (World.block_lt_of_cell? _ _ hc) id).trans hc
          have hne : ¬ ((m : Int) = 5) := by omega
          have HX := Lib.hid hx
          clear hζ hx
          go_wp2_with (first | ((first | refine Mix.wpList_guarded rfl ?_ | refine Mix.wp_still (by kernel_rfl) (by kernel_rfl) ?_); (repeat' (first | (refine Mix.lex_quiet0 rfl rfl rfl ?_; intro K hK; go_big_quiet_op; go_big_quiet_on) | (refine Mix.lex_quietG rfl rfl rfl (by with_reducible rfl) rfl rfl ?_; intro K hK; go_big_quiet_op; go_big_quiet_on) | ((first | refine Mix.lex_skipT rfl rfl rfl (by with_reducible rfl) ?_ | refine Mix.lex_skipF rfl rfl rfl (by with_reducible rfl) ?_ | refine Mix.lex_skipU rfl rfl rfl (by with_reducible rfl) ?_); simp only [Act.put, List.setIfInBounds_toArray, List.set_cons_succ, List.set_cons_zero]) | (refine Mix.lex_part rfl rfl rfl rfl (fun hq => ?_) (fun hq => ?_) <;> (fail_if_success (guard_hyp hq :ₛ true = true)) <;> (fail_if_success (guard_hyp hq :ₛ false = false)) <;> first | (exfalso; cases hq; done) | (exfalso; simp only [decide_eq_true_eq, decide_eq_false_iff_not, beq_iff_eq, beq_eq_false_iff_ne, ne_eq, Int.not_lt, Int.not_le] at hq; omega) | simp only [Act.put, List.setIfInBounds_toArray, List.set_cons_succ, List.set_cons_zero]))); all_goals (refine Mix.lex_nil ?_)))
          go_roundw
          case rel => exact ⟨⟨rfl, rfl, rfl, rfl, .inr (.inr (.inl ⟨r, 1, lookF_ne HX.out, rfl, rfl, rfl, by decide, by decide⟩))⟩, ζ, rfl⟩
          case measure => simp [intOf]
    · have HS := Lib.hid hs1
      clear hs1
      cases r with
      | nil =>
        go_wp2_with (first | ((first | refine Mix.wpList_guarded rfl ?_ | refine Mix.wp_still (by kernel_rfl) (by kernel_rfl) ?_); (repeat' (first | (refine Mix.lex_quiet0 rfl rfl rfl ?_; intro K hK; go_big_quiet_op; go_big_quiet_on) | (refine Mix.lex_quietG rfl rfl rfl (by with_reducible rfl) rfl rfl ?_; intro K hK; go_big_quiet_op; go_big_quiet_on) | ((first | refine Mix.lex_skipT rfl rfl rfl (by with_reducible rfl) ?_ | refine Mix.lex_skipF rfl rfl rfl (by with_reducible rfl) ?_ | refine Mix.lex_skipU rfl rfl rfl (by with_reducible rfl) ?_); simp only [Act.put, List.setIfInBounds_toArray, List.set_cons_succ, List.set_cons_zero]) | (refine Mix.lex_part rfl rfl rfl rfl (fun hq => ?_) (fun hq => ?_) <;> (fail_if_success (guard_hyp hq :ₛ true = true)) <;> (fail_if_success (guard_hyp hq :ₛ false = false)) <;> first | (exfalso; cases hq; done) | (exfalso; simp only [decide_eq_true_eq, decide_eq_false_iff_not, beq_iff_eq, beq_eq_false_iff_ne, ne_eq, Int.not_lt, Int.not_le] at hq; omega) | simp only [Act.put, List.setIfInBounds_toArray, List.set_cons_succ, List.set_cons_zero]))); all_goals (refine Mix.lex_nil ?_)))
        go_ret3
        exact ⟨congrArg Ending.returned (lookV_none (by rw [HS.out]; rfl)).symm, ξ.h⟩
      | cons x r =>
        obtain ⟨m, hm, hM⟩ := H.out.next x
        have hx8 : x.toNat < 256 := x.toNat_lt
        have cm : ∀ ξ : X w No, ξ.v.cell? ⟨g, 6 + x.toNat, none⟩ = some (.int .u8 m) := fun ξ => (H.out.gen.x (F := No) id (6 + x.toNat) ξ).trans hm
        clear hm
        go_upto_region 12 with fail
        (refine Mix.wp_draw [] 100 (Cl (w) (No)) (by kernel_rfl) (by kernel_rfl) (Cl.drew_ ξ) ?_; (repeat' (first | (refine Mix.lex_quiet0 rfl rfl rfl ?_; intro K hK; go_big_quiet_op; go_big_quiet_on) | (refine Mix.lex_quietG rfl rfl rfl (by with_reducible rfl) rfl rfl ?_; intro K hK; go_big_quiet_op; go_big_quiet_on) | ((first | refine Mix.lex_skipT rfl rfl rfl (by with_reducible rfl) ?_ | refine Mix.lex_skipF rfl rfl rfl (by with_reducible rfl) ?_ | refine Mix.lex_skipU rfl rfl rfl (by with_reducible rfl) ?_); simp only [Act.put, List.setIfInBounds_toArray, List.set_cons_succ, List.set_cons_zero]) | (refine Mix.lex_part rfl rfl rfl rfl (fun hq => ?_) (fun hq => ?_) <;> (fail_if_success (guard_hyp hq :ₛ true = true)) <;> (fail_if_success (guard_hyp hq :ₛ false = false)) <;> first | (exfalso; cases hq; done) | (exfalso; simp only [decide_eq_true_eq, decide_eq_false_iff_not, beq_iff_eq, beq_eq_false_iff_ne, ne_eq, Int.not_lt, Int.not_le] at hq; omega) | simp only [Act.put, List.setIfInBounds_toArray, List.set_cons_succ, List.set_cons_zero]))))
        all_goals (refine Mix.lex_nil ?_)
        obtain ⟨ζ, hζ⟩ : ∃ ζ : X w No, ζ.v = ξ.v.drew := ⟨⟨ξ.v.drew, ξ.h.drew⟩, rfl⟩
        rw [← hζ]
        rcases hM with ⟨rfl, hx⟩ | ⟨hm5, hx, hc⟩ | ⟨hm5, k, t, p, hx, hc, hk, hp⟩
        · have HX := Lib.hid hx
          clear hζ hx
          go_wp2_with (first | ((first | refine Mix.wpList_guarded rfl ?_ | refine Mix.wp_still (by kernel_rfl) (by kernel_rfl) ?_); (repeat' (first | (refine Mix.lex_quiet0 rfl rfl rfl ?_; intro K hK; go_big_quiet_op; go_big_quiet_on) | (refine Mix.lex_quietG rfl rfl rfl (by with_reducible rfl) rfl rfl ?_; intro K hK; go_big_quiet_op; go_big_quiet_on) | ((first | refine Mix.lex_skipT rfl rfl rfl (by with_reducible rfl) ?_ | refine Mix.lex_skipF rfl rfl rfl (by with_reducible rfl) ?_ | refine Mix.lex_skipU rfl rfl rfl (by with_reducible rfl) ?_); simp only [Act.put, List.setIfInBounds_toArray, List.set_cons_succ, List.set_cons_zero]) | (refine Mix.lex_part rfl rfl rfl rfl (fun hq => ?_) (fun hq => ?_) <;> (fail_if_success (guard_hyp hq :ₛ true = true)) <;> (fail_if_success (guard_hyp hq :ₛ false = false)) <;> first | (exfalso; cases hq; done) | (exfalso; simp only [decide_eq_true_eq, decide_eq_false_iff_not, beq_iff_eq, beq_eq_false_iff_ne, ne_eq, Int.not_lt, Int.not_le] at hq; omega) | simp only [Act.put, List.setIfInBounds_toArray, List.set_cons_succ, List.set_cons_zero]))); all_goals (refine Mix.lex_nil ?_)))
          go_ret3
          exact ⟨congrArg Ending.returned (lookV_none (by rw [HS.out, lookF_36]; exact HX.out)).symm, ζ.h⟩
        · have hc : ζ.v.cell? ⟨t1, m, none⟩ = some (.pointer none) := (ζ.h.cell (World.block_lt_of_cell? _ _ hc) id).trans hc
          have hne : ¬ ((m : Int) = 5) := by omega
          have HX := Lib.hid hx
          clear hζ hx
          go_wp2_with (first | ((first | refine Mix.wpList_guarded rfl ?_ | refine Mix.wp_still (by kernel_rfl) (by kernel_rfl) ?_); (repeat' (first | (refine Mix.lex_quiet0 rfl rfl rfl ?_; intro K hK; go_big_quiet_op; go_big_quiet_on) | (refine Mix.lex_quietG rfl rfl rfl (by with_reducible rfl) rfl rfl ?_; intro K hK; go_big_quiet_op; go_big_quiet_on) | ((first | refine Mix.lex_skipT rfl rfl rfl (by with_reducible rfl) ?_ | refine Mix.lex_skipF rfl rfl rfl (by with_reducible rfl) ?_ | refine Mix.lex_skipU rfl rfl rfl (by with_reducible rfl) ?_); simp only [Act.put, List.setIfInBounds_toArray, List.set_cons_succ, List.set_cons_zero]) | (refine Mix.lex_part rfl rfl rfl rfl (fun hq => ?_) (fun hq => ?_) <;> (fail_if_success (guard_hyp hq :ₛ true = true)) <;> (fail_if_success (guard_hyp hq :ₛ false = false)) <;> first | (exfalso; cases hq; done) | (exfalso; simp only [decide_eq_true_eq, decide_eq_false_iff_not, beq_iff_eq, beq_eq_false_iff_ne, ne_eq, Int.not_lt, Int.not_le] at hq; omega) | simp only [Act.put, List.setIfInBounds_toArray, List.set_cons_succ, List.set_cons_zero]))); all_goals (refine Mix.lex_nil ?_)))
          go_roundw
          case rel => exact ⟨⟨rfl, rfl, rfl, rfl, .inr (.inr (.inl ⟨r, 2, by rw [HS.out, lookF_36]; exact HX.out, rfl, rfl, rfl, by decide, by decide⟩))⟩, ζ, rfl⟩
          case measure => simp [intOf]
        · have hc : ζ.v.cell? ⟨t1, m, none⟩ = some (rpt k) := (ζ.h.cell (World.block_lt_of_cell? _ _ hc) id).trans hc
          have hne : ¬ ((m : Int) = 5) := by omega
          have HX := Lib.hid (And.intro hx (And.intro hk hp))
          have HZ := Lib.hid hζ
          clear hζ hx hk hp
          go_wp2_with (first | ((first | refine Mix.wpList_guarded rfl ?_ | refine Mix.wp_still (by kernel_rfl) (by kernel_rfl) ?_); (repeat' (first | (refine Mix.lex_quiet0 rfl rfl rfl ?_; intro K hK; go_big_quiet_op; go_big_quiet_on) | (refine Mix.lex_quietG rfl rfl rfl (by with_reducible rfl) rfl rfl ?_; intro K hK; go_big_quiet_op; go_big_quiet_on) | ((first | refine Mix.lex_skipT rfl rfl rfl (by with_reducible rfl) ?_ | refine Mix.lex_skipF rfl rfl rfl (by with_reducible rfl) ?_ | refine Mix.lex_skipU rfl rfl rfl (by with_reducible rfl) ?_); simp only [Act.put, List.setIfInBounds_toArray, List.set_cons_succ, List.set_cons_zero]) | (refine Mix.lex_part rfl rfl rfl rfl (fun hq => ?_) (fun hq => ?_) <;> (fail_if_success (guard_hyp hq :ₛ true = true)) <;> (fail_if_success (guard_hyp hq :ₛ false = false)) <;> first | (exfalso; cases hq; done) | (exfalso; simp only [decide_eq_true_eq, decide_eq_false_iff_not, beq_iff_eq, beq_eq_false_iff_ne, ne_eq, Int.not_lt, Int.not_le] at hq; omega) | simp only [Act.put, List.setIfInBounds_toArray, List.set_cons_succ, List.set_cons_zero]))); all_goals (refine Mix.lex_nil ?_)))
          go_roundw
          case rel => exact ⟨⟨rfl, rfl, rfl, rfl, .inr (.inr (.inr ⟨r, t, k, p, by rw [HS.out, lookF_36]; exact HX.out.1, HX.out.2.1, HX.out.2.2, rfl, rfl, rfl⟩))⟩, ζ, rfl⟩
          case measure => simp [intOf]
    · have HN := Lib.hid hn
      clear hn
      go_wp2_with (first | ((first | refine Mix.wpList_guarded rfl ?_ | refine Mix.wp_still (by kernel_rfl) (by kernel_rfl) ?_); (repeat' (first | (refine Mix.lex_quiet0 rfl rfl rfl ?_; intro K hK; go_big_quiet_op; go_big_quiet_on) | (refine Mix.lex_quietG rfl rfl rfl (by with_reducible rfl) rfl rfl ?_; intro K hK; go_big_quiet_op; go_big_quiet_on) | ((first | refine Mix.lex_skipT rfl rfl rfl (by with_reducible rfl) ?_ | refine Mix.lex_skipF rfl rfl rfl (by with_reducible rfl) ?_ | refine Mix.lex_skipU rfl rfl rfl (by with_reducible rfl) ?_); simp only [Act.put, List.setIfInBounds_toArray, List.set_cons_succ, List.set_cons_zero]) | (refine Mix.lex_part rfl rfl rfl rfl (fun hq => ?_) (fun hq => ?_) <;> (fail_if_success (guard_hyp hq :ₛ true = true)) <;> (fail_if_success (guard_hyp hq :ₛ false = false)) <;> first | (exfalso; cases hq; done) | (exfalso; simp only [decide_eq_true_eq, decide_eq_false_iff_not, beq_iff_eq, beq_eq_false_iff_ne, ne_eq, Int.not_lt, Int.not_le] at hq; omega) | simp only [Act.put, List.setIfInBounds_toArray, List.set_cons_succ, List.set_cons_zero]))); all_goals (refine Mix.lex_nil ?_)))
      go_ret3
      exact ⟨congrArg Ending.returned (lookV_none HN.out).symm, ξ.h⟩
    · have HT := Lib.hid ht
      have l0 : ∀ ξ : X w No, ξ.v.cell? ⟨k, 0, none⟩ = some (S t) := hk.x (F := No) id 0
      have l1 : ∀ ξ : X w No, ξ.v.cell? ⟨k, 1, none⟩ = some (.int .i64 p) := hk.x (F := No) id 1
      have l2 : ∀ ξ : X w No, ξ.v.cell? ⟨k, 2, none⟩ = some (S []) := hk.x (F := No) id 2
      have l4 : ∀ ξ : X w No, ξ.v.cell? ⟨k, 4, none⟩ = some (.slice none 0 0) := hk.x (F := No) id 4
      clear ht hk
      cases r with
      | nil =>
        go_wp2_with (first | ((first | refine Mix.wpList_guarded rfl ?_ | refine Mix.wp_still (by kernel_rfl) (by kernel_rfl) ?_); (repeat' (first | (refine Mix.lex_quiet0 rfl rfl rfl ?_; intro K hK; go_big_quiet_op; go_big_quiet_on) | (refine Mix.lex_quietG rfl rfl rfl (by with_reducible rfl) rfl rfl ?_; intro K hK; go_big_quiet_op; go_big_quiet_on) | ((first | refine Mix.lex_skipT rfl rfl rfl (by with_reducible rfl) ?_ | refine Mix.lex_skipF rfl rfl rfl (by with_reducible rfl) ?_ | refine Mix.lex_skipU rfl rfl rfl (by with_reducible rfl) ?_); simp only [Act.put, List.setIfInBounds_toArray, List.set_cons_succ, List.set_cons_zero]) | (refine Mix.lex_part rfl rfl rfl rfl (fun hq => ?_) (fun hq => ?_) <;> (fail_if_success (guard_hyp hq :ₛ true = true)) <;> (fail_if_success (guard_hyp hq :ₛ false = false)) <;> first | (exfalso; cases hq; done) | (exfalso; simp only [decide_eq_true_eq, decide_eq_false_iff_not, beq_iff_eq, beq_eq_false_iff_ne, ne_eq, Int.not_lt, Int.not_le] at hq; omega) | simp only [Act.put, List.setIfInBounds_toArray, List.set_cons_succ, List.set_cons_zero]))); all_goals (refine Mix.lex_nil ?_)))
        go_ret3
        exact ⟨congrArg Ending.returned (lookV_some HT.out).symm, ξ.h⟩
      | cons y r =>
        go_wp2_with (first | ((first | refine Mix.wpList_guarded rfl ?_ | refine Mix.wp_still (by kernel_rfl) (by kernel_rfl) ?_); (repeat' (first | (refine Mix.lex_quiet0 rfl rfl rfl ?_; intro K hK; go_big_quiet_op; go_big_quiet_on) | (refine Mix.lex_quietG rfl rfl rfl (by with_reducible rfl) rfl rfl ?_; intro K hK; go_big_quiet_op; go_big_quiet_on) | ((first | refine Mix.lex_skipT rfl rfl rfl (by with_reducible rfl) ?_ | refine Mix.lex_skipF rfl rfl rfl (by with_reducible rfl) ?_ | refine Mix.lex_skipU rfl rfl rfl (by with_reducible rfl) ?_); simp only [Act.put, List.setIfInBounds_toArray, List.set_cons_succ, List.set_cons_zero]) | (refine Mix.lex_part rfl rfl rfl rfl (fun hq => ?_) (fun hq => ?_) <;> (fail_if_success (guard_hyp hq :ₛ true = true)) <;> (fail_if_success (guard_hyp hq :ₛ false = false)) <;> first | (exfalso; cases hq; done) | (exfalso; simp only [decide_eq_true_eq, decide_eq_false_iff_not, beq_iff_eq, beq_eq_false_iff_ne, ne_eq, Int.not_lt, Int.not_le] at hq; omega) | simp only [Act.put, List.setIfInBounds_toArray, List.set_cons_succ, List.set_cons_zero]))); all_goals (refine Mix.lex_nil ?_)))
        go_ret3
        exact ⟨congrArg Ending.returned (lookV_some HT.out).symm, ξ.h⟩
end Go.Proofs.YtnhaekifcieeoaaGreatDoor

/- Rows of the call's own beside one another. -/
namespace Go.Proofs.YtnhaekifcieeoaaGreatDoor
open Go Go.RowKit
theorem own_cs {w : World} {B : Nat} {e : TypeId} {size n : Nat} {x : Value} {xs : List Value} (h : w.ownsRow B e size x n xs) {g : Nat} (hg : x.ownBlock = some g) : ∃ cur, Cs w g e cur := by
  rcases h.2 with ⟨rfl, _⟩ | ⟨g', cap, cur, rfl, hb, hh, _⟩
  · simp [Value.ownBlock] at hg
  · simp [Value.ownBlock] at hg
    subst hg
    exact ⟨cur, hh⟩
theorem own_ne_cs {w : World} {B : Nat} {e t : TypeId} {size n g : Nat} {x : Value} {xs : List Value} {cs : Array Value} (h : w.ownsRow B e size x n xs) (hc : Cs w g t cs) (hne : e ≠ t) : ∀ b, x.ownBlock = some b → ¬ b = g := by
  rintro b hb rfl
  obtain ⟨cur, h1⟩ := own_cs h hb
  exact Cs.ne_ h1 hc hne rfl
theorem own_ne_own {w : World} {B B' : Nat} {e t : TypeId} {size size' n n' : Nat} {x y : Value} {xs ys : List Value} (h : w.ownsRow B e size x n xs) (h' : w.ownsRow B' t size' y n' ys) (hne : e ≠ t) : ∀ b, x.ownBlock = some b → y.ownBlock ≠ some b := by
  intro b hb hb'
  obtain ⟨cur, h1⟩ := own_cs h hb
  obtain ⟨cur', h2⟩ := own_cs h' hb'
  exact Cs.ne_ h1 h2 hne rfl
theorem Fresh.keep {α : Type} {T : Flat α} {t : TypeId} {w wr u : World} {A : Option Addr} {c : Nat} {xs : List α} {F : Nat → Prop} (h : Fresh T t w wr A c xs) (hx : Only F wr u) (hE : Ext w u) (hn : ∀ g, (Value.slice A xs.length c).ownBlock = some g → ¬ F g) : Fresh T t w u A c xs := ⟨own_keep h.own hx hn, hE, h.new⟩
end Go.Proofs.YtnhaekifcieeoaaGreatDoor
