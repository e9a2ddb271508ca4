/- Put together: DelC, Find, Row6, Files1, Files2. -/
import Derived.Test.YtaphmmobmadfoaaMc23
import Derived.Test.YtaphmmobmadfoaaMc10
import Derived.Test.YtaphmmobmadfoaaMc22
import Derived.Test.YtaphmmobmadfoaaShelf
import Derived.Test.YtaphmmobmadfoaaMc11
/- slices.Delete of one change. -/
namespace Go.Proofs.Ytaphmmobmadfoaa
open Go Go.RowKit
section
variable {P : Program}
theorem goes_append_room {w : World} {o : Oper} {a : Act} {K : Value → World → Prop} {t e : TypeId} {k : Nat} (hu : P.underlying t = some (.slice e)) (hz : (P.info? e).map (·.size) = some k) {s x : Operand}
    (ho : o.op = .call { callee := .builtin .append, args := #[s, x], argTypes := #[t, t] }) {g n cap : Nat} (hs : a.eval s = .slice (some ⟨g, 0, none⟩) n cap) {b so m c : Nat} (hx : a.eval x = .slice (some ⟨b, so, none⟩) m c)
    {cur news : List Value} (hg : Cs w g e cur.toArray) (hl : news.length = m * k) (hsrc : ∀ j u, news[j]? = some u → w.cell? ⟨b, so + j, none⟩ = some u) (hroom : n + m ≤ cap) (hfit : n * k + news.length ≤ cur.length) (h1 : ∀ u ∈ news, u.oneCell' = true)
    (h : ∀ w', Cs w' g e (cur.take (n * k) ++ news ++ cur.drop (n * k + news.length)).toArray → Only (fun x => x = g) w w' → K (.slice (some ⟨g, 0, none⟩) (n + m : Nat) cap) w') : Mix.goes P o a w K := by
  cases hq : P.info? e with
  | none => simp [hq] at hz
  | some i =>
    have hi : i.size = k := by simpa [hq] using hz
    have hrun := run_append_room (P := P) w t o.type e i hu hq g n cap cur.toArray hg ⟨b, so, none⟩ m c news (by rw [hi]; exact hl) (fun j v hj => by rw [add_plain_]; exact hsrc j v hj) h1 hroom (by rw [hi]; simpa using hfit)
    unfold Mix.goes Mix.goesUpon execOp
    simp only [ho, resolve, invoke, builtin, Sem.run_bind, Sem.run_pure, Result.andThen_ok, List.map_toArray, List.map_cons, List.map_nil, hs, hx, hrun]
    rw [hi]
    exact h _ (setRow_heap w g _ _ e _ hg) ⟨rfl, rfl, rfl, by simp [World.setRow], fun k _ hne => setRow_other w g k _ hne⟩
end
def delAt {α : Type} (i : Nat) (xs : List α) : List α := xs.take i ++ xs.drop (i + 1)
theorem ch_zero (w : World) : (zeroValue 61).run Try.prog w = .ok (.agg #[S [], S [], .bool false]) w := Try.zeroValue61 w
set_option maxRecDepth 100000 in
set_option maxHeartbeats 2000000 in
theorem DelCh_c {w : World} {g n c i : Nat} {xs : List Ch} {rest : List Value} (hg : Cs w g 61 (xs.flatMap chF.enc ++ rest).toArray) (hl : xs.length = n) (hr : (xs.flatMap chF.enc ++ rest).length = c * 3) (hi : i < n) (hnc : n ≤ c) (hc : c ≤ maxLen) (hn : n ≤ 1000000) :
    Calls Try.prog 56 #[.slice (some ⟨g, 0, none⟩) n c, .int .i64 i, .int .i64 ((i : Int) + 1)] w fun e w' =>
      ∃ rest', e = .returned (.slice (some ⟨g, 0, none⟩) (n - 1 : Nat) c) ∧ Cs w' g 61 ((delAt i xs).flatMap chF.enc ++ rest').toArray ∧ ((delAt i xs).flatMap chF.enc ++ rest').length = c * 3 ∧ Only (fun b => b = g) w w' := by
  unfold maxLen at hc
  have HG := Lib.hid hg
  have HL := Lib.hid hl
  have HR := Lib.hid hr
  clear hg hl hr
  go_enter Try.func56, Try.ntmps56
  have hX : (xs.flatMap chF.enc).length = n * 3 := by rw [length_flatMap_enc, HL.out]; rfl
  have hD : ((xs.drop (i + 1)).flatMap chF.enc).length = (n - (i + 1)) * 3 := by rw [length_flatMap_enc, List.length_drop, HL.out]; rfl
  have hDe : (xs.drop (i + 1)).flatMap chF.enc = (xs.flatMap chF.enc).drop ((i + 1) * 3) := drop_flatMap chF xs (i + 1)
  have hTe : (xs.take i).flatMap chF.enc = (xs.flatMap chF.enc).take (i * 3) := take_flatMap chF xs i
  have HXl := Lib.hid hX
  have HDl := Lib.hid hD
  have HDe := Lib.hid hDe
  have HTe := Lib.hid hTe
  clear hX hD hDe hTe
  have hne : ((i : Int) == (i : Int) + 1) = false := by rw [beq_eq_false_iff_ne]; omega
  go_wp2
  refine Mix.wp_draw [6] 100 (Cl w (fun b => b = g)) (by kernel_rfl) (by kernel_rfl) (Cl.of (Only.refl _ _).drew) ?_
  (repeat' (first | (refine Mix.lex_quiet0 rfl rfl rfl ?_; intro K hK; go_big_quiet_op; go_big_quiet_on) | (refine Mix.lex_quietG rfl rfl rfl (by with_reducible rfl) rfl rfl ?_; intro K hK; go_big_quiet_op; go_big_quiet_on) | ((first | refine Mix.lex_skipT rfl rfl rfl (by with_reducible rfl) ?_ | refine Mix.lex_skipF rfl rfl rfl (by with_reducible rfl) ?_ | refine Mix.lex_skipU rfl rfl rfl (by with_reducible rfl) ?_); simp only [Act.put, List.setIfInBounds_toArray, List.set_cons_succ, List.set_cons_zero]) | (refine Mix.lex_part rfl rfl rfl rfl (fun hq => ?_) (fun hq => ?_) <;> (fail_if_success (guard_hyp hq :ₛ true = true)) <;> (fail_if_success (guard_hyp hq :ₛ false = false)) <;> first | (exfalso; cases hq; done) | (exfalso; simp only [decide_eq_true_eq, decide_eq_false_iff_not, beq_iff_eq, beq_eq_false_iff_ne, ne_eq, Int.not_lt, Int.not_le] at hq; omega) | simp only [Act.put, List.setIfInBounds_toArray, List.set_cons_succ, List.set_cons_zero])))
  refine Mix.lex_goes0 rfl rfl ?_
  obtain ⟨so, hso, hso'⟩ : ∃ so, (if c = i + 1 then some (⟨g, 0, none⟩ : Addr) else some ⟨g, (i + 1) * 3, none⟩) = some ⟨g, so, none⟩ ∧ (i + 1 < n → so = (i + 1) * 3) := by
    by_cases h : c = i + 1
    · exact ⟨0, by rw [if_pos h], fun h' => by omega⟩
    · exact ⟨_, by rw [if_neg h], fun _ => rfl⟩
  simp only [hso]
  intro K hK
  have HSO := Lib.hid hso'
  clear hso hso'
  refine goes_append_room Try.underlying36 (k := 3) (by kernel_rfl) rfl (m := n - (i + 1)) (n := i) rfl rfl (cur := xs.flatMap chF.enc ++ rest) (news := (xs.drop (i + 1)).flatMap chF.enc) HG.out.drew HDl.out ?_ (by omega) ?_ (ch_enc1 _) ?_
  · intro j u hu
    have hj := (List.getElem?_eq_some_iff.1 hu).1
    rw [HDl.out] at hj
    rw [HSO.out (by omega)]
    rw [HDe.out, List.getElem?_drop] at hu
    refine (HG.out.drew.cell _).trans ?_
    rw [List.getElem?_toArray, List.getElem?_append_left (by rw [HXl.out]; omega)]
    exact hu
  · rw [HR.out, HDl.out]; omega
  intro u hu hx
  have hcur : (xs.flatMap chF.enc ++ rest).take (i * 3) ++ (xs.drop (i + 1)).flatMap chF.enc ++ (xs.flatMap chF.enc ++ rest).drop (i * 3 + ((xs.drop (i + 1)).flatMap chF.enc).length) = (delAt i xs).flatMap chF.enc ++ (xs.flatMap chF.enc ++ rest).drop ((n - 1) * 3) := by
    rw [List.take_append_of_le_length (by rw [HXl.out]; omega), ← HTe.out, delAt, List.flatMap_append, HDl.out]
    congr 2
    omega
  rw [hcur] at hu
  have hn1 : i + (n - (i + 1)) = n - 1 := by omega
  rw [hn1]
  obtain ⟨R, hR⟩ : ∃ R, R = (xs.flatMap chF.enc ++ rest).drop ((n - 1) * 3) := ⟨_, rfl⟩
  have HRl : Hid (R.length = (c - (n - 1)) * 3) := by
    rw [Hid, hR, List.length_drop, HR.out]; omega
  have HLl : Hid (((delAt i xs).flatMap chF.enc).length = (n - 1) * 3) := by
    rw [Hid, length_flatMap_enc, delAt, List.length_append, List.length_take, List.length_drop, HL.out, Nat.min_eq_left (by omega)]
    show (i + (n - (i + 1))) * 3 = _
    omega
  rw [← hR] at hu
  have HU := Lib.hid hu
  have HX := Lib.hid ((Only.refl (fun b => b = g) w).drew.trans hx fun _ _ h => h)
  refine hK _ _ (fun _ => Cl.of HX.out) ?_
  clear hK K hu hx HG HR HXl HDl HDe HTe HSO hcur hR hn1
  simp only [Act.put, List.setIfInBounds_toArray, List.set_cons_succ, List.set_cons_zero]
  (repeat' (first | (refine Mix.lex_quiet0 rfl rfl rfl ?_; intro K hK; go_big_quiet_op; go_big_quiet_on) | (refine Mix.lex_quietG rfl rfl rfl (by with_reducible rfl) rfl rfl ?_; intro K hK; go_big_quiet_op; go_big_quiet_on) | ((first | refine Mix.lex_skipT rfl rfl rfl (by with_reducible rfl) ?_ | refine Mix.lex_skipF rfl rfl rfl (by with_reducible rfl) ?_ | refine Mix.lex_skipU rfl rfl rfl (by with_reducible rfl) ?_); simp only [Act.put, List.setIfInBounds_toArray, List.set_cons_succ, List.set_cons_zero]) | (refine Mix.lex_part rfl rfl rfl rfl (fun hq => ?_) (fun hq => ?_) <;> (fail_if_success (guard_hyp hq :ₛ true = true)) <;> (fail_if_success (guard_hyp hq :ₛ false = false)) <;> first | (exfalso; cases hq; done) | (exfalso; simp only [decide_eq_true_eq, decide_eq_false_iff_not, beq_iff_eq, beq_eq_false_iff_ne, ne_eq, Int.not_lt, Int.not_le] at hq; omega) | simp only [Act.put, List.setIfInBounds_toArray, List.set_cons_succ, List.set_cons_zero])))
  refine Mix.lex_nil ?_
  obtain ⟨D, hD⟩ : ∃ D, D = (delAt i xs).flatMap chF.enc := ⟨_, rfl⟩
  rw [← hD] at HU HLl
  have HD := Lib.hid hD
  clear hD
  have e3 : n - (n - 1) = 1 := by omega
  go_wp2_with (with_reducible refine wpList_clear_k rfl Try.underlying36 ch_zero rfl rfl (n := 1) (cur := D ++ R) HU.out ?_ ?_ ?_)
  · show (n - 1) * 3 + 1 * 3 ≤ _
    rw [List.length_append, HLl.out, HRl.out]; omega
  · intro v hv
    have hv : v ∈ [S [], S [], Value.bool false] := hv
    have : v = S [] ∨ v = S [] ∨ v = .bool false := by simpa using hv
    rcases this with rfl | rfl | rfl <;> rfl
  intro v hv hx2
  have fin : Hid (∃ R', (D ++ R).take ((n - 1) * 3) ++ ((Builtin.zeroCells #[S [], S [], .bool false] 1).toList ++ (D ++ R).drop ((n - 1) * 3 + 3)) = D ++ R' ∧ (D ++ R').length = c * 3) := by
    refine ⟨(Builtin.zeroCells #[S [], S [], .bool false] 1).toList ++ R.drop 3, ?_, ?_⟩
    · rw [List.take_left' HLl.out, ← List.drop_drop, List.drop_left' HLl.out]
    · rw [List.length_append, List.length_append, length_zeroCells, HLl.out, List.length_drop, HRl.out]
      show (n - 1) * 3 + (1 * 3 + _) = _
      omega
  obtain ⟨R', hR1, hR2⟩ := fin.out
  rw [hR1] at hv
  have HV := Lib.hid hv
  have HX2 := Lib.hid (HX.out.trans hx2 fun _ _ h => h)
  clear hv hx2 hR1 fin HU HRl HLl HX
  go_wp2
  go_ret
  exact ⟨R', rfl, by rw [← HD.out]; exact HV.out, by rw [← HD.out]; exact hR2, HX2.out⟩
end Go.Proofs.Ytaphmmobmadfoaa

/- Binary search in files and in changes. -/
namespace Go.Proofs.Ytaphmmobmadfoaa
open Go Go.RowKit
theorem Compare_c (a b : Str) (w : World) : Calls Try.prog 55 #[S a, S b] w fun e w' => e = .returned (.int .i64 (cmpS a b)) ∧ Ext w w' := by
  refine (Try.strings_Compare _ _ w).mono ?_
  rintro e w' ⟨rfl, rfl⟩
  exact ⟨rfl, Only.refl _ _⟩
end Go.Proofs.Ytaphmmobmadfoaa

/- row.Apply. -/
namespace Go.Proofs.Ytaphmmobmadfoaa
open Go Go.RowKit
abbrev ck : Ch → Str := fun c => c.1
theorem apply1_c (c : Ch) (k : Str) (w : World) : Calls Try.prog 54 #[.agg #[S c.1, S c.2.1, .bool c.2.2], S k] w fun e w' => e = .returned (.int .i64 (cmpS c.1 k)) ∧ Ext w w' := by
  go_enter Try.func54, Try.ntmps54
  go_wp2_with (first | ((first | refine Mix.wpList_guarded rfl ?_ | refine Mix.wp_still (by kernel_rfl) (by kernel_rfl) ?_); (repeat' (first | (refine Mix.lex_quiet0 rfl rfl rfl ?_; intro K hK; go_big_quiet_op; go_big_quiet_on) | (refine Mix.lex_quietG rfl rfl rfl (by with_reducible rfl) rfl rfl ?_; intro K hK; go_big_quiet_op; go_big_quiet_on) | ((first | refine Mix.lex_skipT rfl rfl rfl (by with_reducible rfl) ?_ | refine Mix.lex_skipF rfl rfl rfl (by with_reducible rfl) ?_ | refine Mix.lex_skipU rfl rfl rfl (by with_reducible rfl) ?_); simp only [Act.put, List.setIfInBounds_toArray, List.set_cons_succ, List.set_cons_zero]) | (refine Mix.lex_part rfl rfl rfl rfl (fun hq => ?_) (fun hq => ?_) <;> (fail_if_success (guard_hyp hq :ₛ true = true)) <;> (fail_if_success (guard_hyp hq :ₛ false = false)) <;> first | (exfalso; cases hq; done) | (exfalso; simp only [decide_eq_true_eq, decide_eq_false_iff_not, beq_iff_eq, beq_eq_false_iff_ne, ne_eq, Int.not_lt, Int.not_le] at hq; omega) | simp only [Act.put, List.setIfInBounds_toArray, List.set_cons_succ, List.set_cons_zero]))); all_goals (refine Mix.lex_nil ?_)))
  refine (Compare_c c.1 k _).mono ?_
  rintro e u ⟨rfl, hu⟩
  go_wp2_with (first | ((first | refine Mix.wpList_guarded rfl ?_ | refine Mix.wp_still (by kernel_rfl) (by kernel_rfl) ?_); (repeat' (first | (refine Mix.lex_quiet0 rfl rfl rfl ?_; intro K hK; go_big_quiet_op; go_big_quiet_on) | (refine Mix.lex_quietG rfl rfl rfl (by with_reducible rfl) rfl rfl ?_; intro K hK; go_big_quiet_op; go_big_quiet_on) | ((first | refine Mix.lex_skipT rfl rfl rfl (by with_reducible rfl) ?_ | refine Mix.lex_skipF rfl rfl rfl (by with_reducible rfl) ?_ | refine Mix.lex_skipU rfl rfl rfl (by with_reducible rfl) ?_); simp only [Act.put, List.setIfInBounds_toArray, List.set_cons_succ, List.set_cons_zero]) | (refine Mix.lex_part rfl rfl rfl rfl (fun hq => ?_) (fun hq => ?_) <;> (fail_if_success (guard_hyp hq :ₛ true = true)) <;> (fail_if_success (guard_hyp hq :ₛ false = false)) <;> first | (exfalso; cases hq; done) | (exfalso; simp only [decide_eq_true_eq, decide_eq_false_iff_not, beq_iff_eq, beq_eq_false_iff_ne, ne_eq, Int.not_lt, Int.not_le] at hq; omega) | simp only [Act.put, List.setIfInBounds_toArray, List.set_cons_succ, List.set_cons_zero]))); all_goals (refine Mix.lex_nil ?_)))
  go_ret
  exact ⟨rfl, ((Only.refl No w).alloc _).then_ext hu⟩
set_option maxRecDepth 100000 in
set_option maxHeartbeats 1000000 in
theorem BsCh_c {w : World} {A : Option Addr} {n c : Nat} {xs : List Ch} (h : SlR chF w A n xs) (hn : n ≤ 1000000) (k : Str) (hr : Rise (·.1) xs) :
    Calls Try.prog 53 #[.slice A n c, S k, .func (.func 54) #[] #[]] w fun e w' => e = .returned (.tuple #[.int .i64 (posOf (·.1) xs k : Nat), .bool (hasAt (·.1) xs k)]) ∧ Ext w w' := by
  have HR := Lib.hid hr
  clear hr
  go_enter Try.func53, Try.ntmps53
  go_wp2_with (first | ((first | refine Mix.wpList_guarded rfl ?_ | refine Mix.wp_still (by kernel_rfl) (by kernel_rfl) ?_); (repeat' (first | (refine Mix.lex_quiet0 rfl rfl rfl ?_; intro K hK; go_big_quiet_op; go_big_quiet_on) | (refine Mix.lex_quietG rfl rfl rfl (by with_reducible rfl) rfl rfl ?_; intro K hK; go_big_quiet_op; go_big_quiet_on) | ((first | refine Mix.lex_skipT rfl rfl rfl (by with_reducible rfl) ?_ | refine Mix.lex_skipF rfl rfl rfl (by with_reducible rfl) ?_ | refine Mix.lex_skipU rfl rfl rfl (by with_reducible rfl) ?_); simp only [Act.put, List.setIfInBounds_toArray, List.set_cons_succ, List.set_cons_zero]) | (refine Mix.lex_part rfl rfl rfl rfl (fun hq => ?_) (fun hq => ?_) <;> (fail_if_success (guard_hyp hq :ₛ true = true)) <;> (fail_if_success (guard_hyp hq :ₛ false = false)) <;> first | (exfalso; cases hq; done) | (exfalso; simp only [decide_eq_true_eq, decide_eq_false_iff_not, beq_iff_eq, beq_eq_false_iff_ne, ne_eq, Int.not_lt, Int.not_le] at hq; omega) | simp only [Act.put, List.setIfInBounds_toArray, List.set_cons_succ, List.set_cons_zero]))); all_goals (refine Mix.lex_nil ?_)))
  go_loopw [9, 10] (fun i j wr => ∃ a b : Nat, a ≤ b ∧ b ≤ n ∧ i = .int .i64 a ∧ j = .int .i64 b ∧ (∀ p x, p < a → xs[p]? = some x → x.1 < k) ∧ (∀ p x, b ≤ p → xs[p]? = some x → ¬ x.1 < k) ∧ ∃ ξ : X w No, wr = ξ.v) (fun i j _ => (intOf j - intOf i).toNat)
  case atStart => exact ⟨0, n, Nat.zero_le _, Nat.le_refl _, rfl, rfl, fun p x hp => by omega, fun p x hp hx => (by have := (List.getElem?_eq_some_iff.1 hx).1; have := h.1; omega), X.here _ _, rfl⟩
  case round =>
    obtain ⟨a, b, hab, hbn, rfl, rfl, h1, h2, ξ, rfl⟩ := hrel
    have H1 := Lib.hid h1
    have H2 := Lib.hid h2
    clear h1 h2
    by_cases hlt : a < b
    · obtain ⟨bk, o, x, rfl, hx, c0, c1, c2⟩ := chs_get h (k := (a + b) / 2) (by omega)
      have HX := Lib.hid hx
      clear hx
      have hd := cmpS_lt x.1 k
      have HF := Lib.hid (fun w => apply1_c x k w)
      obtain ⟨m, hm⟩ : ∃ m, m = cmpS x.1 k := ⟨_, rfl⟩
      rw [← hm] at hd HF
      clear hm
      by_cases hxk : x.1 < k
      · rw [decide_eq_true hxk] at hd
        have HK := Lib.hid hxk
        clear hxk
        go_wp2_with (first | ((first | refine Mix.wpList_guarded rfl ?_ | refine Mix.wp_still (by kernel_rfl) (by kernel_rfl) ?_); (repeat' (first | (refine Mix.lex_quiet0 rfl rfl rfl ?_; intro K hK; go_big_quiet_op; go_big_quiet_on) | (refine Mix.lex_quietG rfl rfl rfl (by with_reducible rfl) rfl rfl ?_; intro K hK; go_big_quiet_op; go_big_quiet_on) | ((first | refine Mix.lex_skipT rfl rfl rfl (by with_reducible rfl) ?_ | refine Mix.lex_skipF rfl rfl rfl (by with_reducible rfl) ?_ | refine Mix.lex_skipU rfl rfl rfl (by with_reducible rfl) ?_); simp only [Act.put, List.setIfInBounds_toArray, List.set_cons_succ, List.set_cons_zero]) | (refine Mix.lex_part rfl rfl rfl rfl (fun hq => ?_) (fun hq => ?_) <;> (fail_if_success (guard_hyp hq :ₛ true = true)) <;> (fail_if_success (guard_hyp hq :ₛ false = false)) <;> first | (exfalso; cases hq; done) | (exfalso; simp only [decide_eq_true_eq, decide_eq_false_iff_not, beq_iff_eq, beq_eq_false_iff_ne, ne_eq, Int.not_lt, Int.not_le] at hq; omega) | simp only [Act.put, List.setIfInBounds_toArray, List.set_cons_succ, List.set_cons_zero]))); all_goals (refine Mix.lex_nil ?_)))
        refine (HF.out _).mono ?_
        rintro e u ⟨rfl, hu⟩
        have U := Lib.hid (ξ.h.then_ext hu)
        clear hu
        go_wp2_with (first | ((first | refine Mix.wpList_guarded rfl ?_ | refine Mix.wp_still (by kernel_rfl) (by kernel_rfl) ?_); (repeat' (first | (refine Mix.lex_quiet0 rfl rfl rfl ?_; intro K hK; go_big_quiet_op; go_big_quiet_on) | (refine Mix.lex_quietG rfl rfl rfl (by with_reducible rfl) rfl rfl ?_; intro K hK; go_big_quiet_op; go_big_quiet_on) | ((first | refine Mix.lex_skipT rfl rfl rfl (by with_reducible rfl) ?_ | refine Mix.lex_skipF rfl rfl rfl (by with_reducible rfl) ?_ | refine Mix.lex_skipU rfl rfl rfl (by with_reducible rfl) ?_); simp only [Act.put, List.setIfInBounds_toArray, List.set_cons_succ, List.set_cons_zero]) | (refine Mix.lex_part rfl rfl rfl rfl (fun hq => ?_) (fun hq => ?_) <;> (fail_if_success (guard_hyp hq :ₛ true = true)) <;> (fail_if_success (guard_hyp hq :ₛ false = false)) <;> first | (exfalso; cases hq; done) | (exfalso; simp only [decide_eq_true_eq, decide_eq_false_iff_not, beq_iff_eq, beq_eq_false_iff_ne, ne_eq, Int.not_lt, Int.not_le] at hq; omega) | simp only [Act.put, List.setIfInBounds_toArray, List.set_cons_succ, List.set_cons_zero]))); all_goals (refine Mix.lex_nil ?_)))
        go_roundw
        case rel =>
          refine ⟨(a + b) / 2 + 1, b, by omega, hbn, by go_num, rfl, fun p y hp hy => ?_, H2.out, ⟨_, U.out⟩, rfl⟩
          by_cases e : p = (a + b) / 2
          · subst e
            rw [HX.out] at hy
            injection hy with hy
            exact hy ▸ HK.out
          · exact slt_trans (HR.out.at_lt (show p < (a + b) / 2 by omega) hy HX.out) HK.out
        case measure => simp [intOf]; omega
      · rw [decide_eq_false hxk] at hd
        have HK := Lib.hid hxk
        clear hxk
        go_wp2_with (first | ((first | refine Mix.wpList_guarded rfl ?_ | refine Mix.wp_still (by kernel_rfl) (by kernel_rfl) ?_); (repeat' (first | (refine Mix.lex_quiet0 rfl rfl rfl ?_; intro K hK; go_big_quiet_op; go_big_quiet_on) | (refine Mix.lex_quietG rfl rfl rfl (by with_reducible rfl) rfl rfl ?_; intro K hK; go_big_quiet_op; go_big_quiet_on) | ((first | refine Mix.lex_skipT rfl rfl rfl (by with_reducible rfl) ?_ | refine Mix.lex_skipF rfl rfl rfl (by with_reducible rfl) ?_ | refine Mix.lex_skipU rfl rfl rfl (by with_reducible rfl) ?_); simp only [Act.put, List.setIfInBounds_toArray, List.set_cons_succ, List.set_cons_zero]) | (refine Mix.lex_part rfl rfl rfl rfl (fun hq => ?_) (fun hq => ?_) <;> (fail_if_success (guard_hyp hq :ₛ true = true)) <;> (fail_if_success (guard_hyp hq :ₛ false = false)) <;> first | (exfalso; cases hq; done) | (exfalso; simp only [decide_eq_true_eq, decide_eq_false_iff_not, beq_iff_eq, beq_eq_false_iff_ne, ne_eq, Int.not_lt, Int.not_le] at hq; omega) | simp only [Act.put, List.setIfInBounds_toArray, List.set_cons_succ, List.set_cons_zero]))); all_goals (refine Mix.lex_nil ?_)))
        refine (HF.out _).mono ?_
        rintro e u ⟨rfl, hu⟩
        have U := Lib.hid (ξ.h.then_ext hu)
        clear hu
        go_wp2_with (first | ((first | refine Mix.wpList_guarded rfl ?_ | refine Mix.wp_still (by kernel_rfl) (by kernel_rfl) ?_); (repeat' (first | (refine Mix.lex_quiet0 rfl rfl rfl ?_; intro K hK; go_big_quiet_op; go_big_quiet_on) | (refine Mix.lex_quietG rfl rfl rfl (by with_reducible rfl) rfl rfl ?_; intro K hK; go_big_quiet_op; go_big_quiet_on) | ((first | refine Mix.lex_skipT rfl rfl rfl (by with_reducible rfl) ?_ | refine Mix.lex_skipF rfl rfl rfl (by with_reducible rfl) ?_ | refine Mix.lex_skipU rfl rfl rfl (by with_reducible rfl) ?_); simp only [Act.put, List.setIfInBounds_toArray, List.set_cons_succ, List.set_cons_zero]) | (refine Mix.lex_part rfl rfl rfl rfl (fun hq => ?_) (fun hq => ?_) <;> (fail_if_success (guard_hyp hq :ₛ true = true)) <;> (fail_if_success (guard_hyp hq :ₛ false = false)) <;> first | (exfalso; cases hq; done) | (exfalso; simp only [decide_eq_true_eq, decide_eq_false_iff_not, beq_iff_eq, beq_eq_false_iff_ne, ne_eq, Int.not_lt, Int.not_le] at hq; omega) | simp only [Act.put, List.setIfInBounds_toArray, List.set_cons_succ, List.set_cons_zero]))); all_goals (refine Mix.lex_nil ?_)))
        go_roundw
        case rel =>
          refine ⟨a, (a + b) / 2, by omega, by omega, rfl, by go_num, H1.out, fun p y hp hy => ?_, ⟨_, U.out⟩, rfl⟩
          by_cases e : p = (a + b) / 2
          · subst e
            rw [HX.out] at hy
            injection hy with hy
            exact hy ▸ HK.out
          · exact fun hl => HK.out (slt_trans (HR.out.at_lt (show (a + b) / 2 < p by omega) HX.out hy) hl)
        case measure => simp [intOf]; omega
    · obtain rfl : a = b := by omega
      have HP : Hid (posOf (·.1) xs k = a) := posOf_of (by rw [h.1]; exact hbn) H1.out (fun x hx => H2.out a x (Nat.le_refl _) hx)
      have HB : Hid (hasAt (·.1) xs k = match xs[a]? with | some x => decide (x.1 = k) | none => false) := by unfold Hid hasAt; rw [HP.out]; cases xs[a]? <;> rfl
      clear H1 H2
      by_cases han : a < n
      · obtain ⟨bk, o, x, rfl, hx, c0, c1, c2⟩ := chs_get h han
        have HB' : Hid (hasAt (·.1) xs k = decide (x.1 = k)) := by unfold Hid; rw [HB.out, hx]
        clear hx HB
        have hd := cmpS_eq x.1 k
        have HF := Lib.hid (fun w => apply1_c x k w)
        obtain ⟨m, hm⟩ : ∃ m, m = cmpS x.1 k := ⟨_, rfl⟩
        rw [← hm] at hd HF
        obtain ⟨bb, hbb⟩ : ∃ bb, bb = decide (x.1 = k) := ⟨_, rfl⟩
        rw [← hbb] at hd HB'
        clear hm hbb
        have hk : decide ((a : Int) < (n : Int)) = true := by simp; omega
        go_upto_region 8 with fail
        refine Mix.wp_plain [11] (Cl w No) (Cl.of ξ.h) ?_
        (repeat' (first | (refine Mix.lex_quiet0 rfl rfl rfl ?_; intro K hK; go_big_quiet_op; go_big_quiet_on) | (refine Mix.lex_quietG rfl rfl rfl (by with_reducible rfl) rfl rfl ?_; intro K hK; go_big_quiet_op; go_big_quiet_on) | ((first | refine Mix.lex_skipT rfl rfl rfl (by with_reducible rfl) ?_ | refine Mix.lex_skipF rfl rfl rfl (by with_reducible rfl) ?_ | refine Mix.lex_skipU rfl rfl rfl (by with_reducible rfl) ?_); simp only [Act.put, List.setIfInBounds_toArray, List.set_cons_succ, List.set_cons_zero]) | (refine Mix.lex_part rfl rfl rfl rfl (fun hq => ?_) (fun hq => ?_) <;> (fail_if_success (guard_hyp hq :ₛ true = true)) <;> (fail_if_success (guard_hyp hq :ₛ false = false)) <;> first | (exfalso; cases hq; done) | (exfalso; simp only [decide_eq_true_eq, decide_eq_false_iff_not, beq_iff_eq, beq_eq_false_iff_ne, ne_eq, Int.not_lt, Int.not_le] at hq; omega) | simp only [Act.put, List.setIfInBounds_toArray, List.set_cons_succ, List.set_cons_zero])))
        ((first | refine Mix.lex_goes0 rfl rfl ?_ | refine Mix.lex_goesG rfl rfl rfl (by with_reducible rfl) rfl ?_); intro K hK; go_simp)
        refine (HF.out _).mono ?_
        rintro e u ⟨rfl, hu⟩
        have U := Lib.hid (ξ.h.then_ext hu)
        refine ⟨_, rfl, hK _ _ (fun _ => Cl.of U.out) ?_⟩
        clear hK K hu
        simp only [Act.put, List.setIfInBounds_toArray, List.set_cons_succ, List.set_cons_zero]
        (repeat' (first | (refine Mix.lex_quiet0 rfl rfl rfl ?_; intro K hK; go_big_quiet_op; go_big_quiet_on) | (refine Mix.lex_quietG rfl rfl rfl (by with_reducible rfl) rfl rfl ?_; intro K hK; go_big_quiet_op; go_big_quiet_on) | ((first | refine Mix.lex_skipT rfl rfl rfl (by with_reducible rfl) ?_ | refine Mix.lex_skipF rfl rfl rfl (by with_reducible rfl) ?_ | refine Mix.lex_skipU rfl rfl rfl (by with_reducible rfl) ?_); simp only [Act.put, List.setIfInBounds_toArray, List.set_cons_succ, List.set_cons_zero]) | (refine Mix.lex_part rfl rfl rfl rfl (fun hq => ?_) (fun hq => ?_) <;> (fail_if_success (guard_hyp hq :ₛ true = true)) <;> (fail_if_success (guard_hyp hq :ₛ false = false)) <;> first | (exfalso; cases hq; done) | (exfalso; simp only [decide_eq_true_eq, decide_eq_false_iff_not, beq_iff_eq, beq_eq_false_iff_ne, ne_eq, Int.not_lt, Int.not_le] at hq; omega) | simp only [Act.put, List.setIfInBounds_toArray, List.set_cons_succ, List.set_cons_zero])))
        refine Mix.lex_nil ?_
        go_wp2_with (first | ((first | refine Mix.wpList_guarded rfl ?_ | refine Mix.wp_still (by kernel_rfl) (by kernel_rfl) ?_); (repeat' (first | (refine Mix.lex_quiet0 rfl rfl rfl ?_; intro K hK; go_big_quiet_op; go_big_quiet_on) | (refine Mix.lex_quietG rfl rfl rfl (by with_reducible rfl) rfl rfl ?_; intro K hK; go_big_quiet_op; go_big_quiet_on) | ((first | refine Mix.lex_skipT rfl rfl rfl (by with_reducible rfl) ?_ | refine Mix.lex_skipF rfl rfl rfl (by with_reducible rfl) ?_ | refine Mix.lex_skipU rfl rfl rfl (by with_reducible rfl) ?_); simp only [Act.put, List.setIfInBounds_toArray, List.set_cons_succ, List.set_cons_zero]) | (refine Mix.lex_part rfl rfl rfl rfl (fun hq => ?_) (fun hq => ?_) <;> (fail_if_success (guard_hyp hq :ₛ true = true)) <;> (fail_if_success (guard_hyp hq :ₛ false = false)) <;> first | (exfalso; cases hq; done) | (exfalso; simp only [decide_eq_true_eq, decide_eq_false_iff_not, beq_iff_eq, beq_eq_false_iff_ne, ne_eq, Int.not_lt, Int.not_le] at hq; omega) | simp only [Act.put, List.setIfInBounds_toArray, List.set_cons_succ, List.set_cons_zero]))); all_goals (refine Mix.lex_nil ?_)))
        go_ret2
        exact ⟨(by rw [HP.out, HB'.out]; try rfl), U.out⟩
      · have hk : decide ((a : Int) < (n : Int)) = false := by simp; omega
        have HB' : Hid (hasAt (·.1) xs k = false) := by
          have : xs[a]? = none := List.getElem?_eq_none (by rw [h.1]; omega)
          unfold Hid
          rw [HB.out, this]
        clear HB
        go_wp2_with (first | ((first | refine Mix.wpList_guarded rfl ?_ | refine Mix.wp_still (by kernel_rfl) (by kernel_rfl) ?_); (repeat' (first | (refine Mix.lex_quiet0 rfl rfl rfl ?_; intro K hK; go_big_quiet_op; go_big_quiet_on) | (refine Mix.lex_quietG rfl rfl rfl (by with_reducible rfl) rfl rfl ?_; intro K hK; go_big_quiet_op; go_big_quiet_on) | ((first | refine Mix.lex_skipT rfl rfl rfl (by with_reducible rfl) ?_ | refine Mix.lex_skipF rfl rfl rfl (by with_reducible rfl) ?_ | refine Mix.lex_skipU rfl rfl rfl (by with_reducible rfl) ?_); simp only [Act.put, List.setIfInBounds_toArray, List.set_cons_succ, List.set_cons_zero]) | (refine Mix.lex_part rfl rfl rfl rfl (fun hq => ?_) (fun hq => ?_) <;> (fail_if_success (guard_hyp hq :ₛ true = true)) <;> (fail_if_success (guard_hyp hq :ₛ false = false)) <;> first | (exfalso; cases hq; done) | (exfalso; simp only [decide_eq_true_eq, decide_eq_false_iff_not, beq_iff_eq, beq_eq_false_iff_ne, ne_eq, Int.not_lt, Int.not_le] at hq; omega) | simp only [Act.put, List.setIfInBounds_toArray, List.set_cons_succ, List.set_cons_zero]))); all_goals (refine Mix.lex_nil ?_)))
        all_goals (go_ret2; exact ⟨(by rw [HP.out, HB'.out]; try rfl), ξ.h⟩)
theorem CloneChs_c {w : World} {A : Option Addr} {n c : Nat} {cs : List Value} (h : Rd w A n 3 cs) (h1 : ∀ u ∈ cs, u.oneCell' = true) (hA : A = none → n = 0) (hn : n ≤ 1000000) :
    Calls Try.prog 47 #[.slice A n c] w fun e w' => ∃ A' c', e = .returned (.slice A' n c') ∧ w'.ownsRow 0 61 3 (.slice A' n c') n cs ∧ Ext w w' ∧ ∀ g, (Value.slice A' n c').ownBlock = some g → w.heap.size ≤ g := by
  have h2 := fun (W : World) => Lib.run_eql_slice_nil (P := Try.prog) W 36 61 A n c 0 0 Try.underlying36
  rcases A with _ | ad
  · obtain rfl := hA rfl
    obtain rfl : cs = [] := List.eq_nil_of_length_eq_zero (by simpa using h.1)
    go_enter Try.func47, Try.ntmps47
    go_wp2
    go_ret
    exact ⟨none, 0, rfl, World.ownsRow_nil _ _ _ _, Only.refl _ _, fun g hg => by simp [Value.ownBlock] at hg⟩
  · have H := Lib.hid h
    clear h
    go_enter Try.func47, Try.ntmps47
    go_wp2_with (at_builtin; go_must (refine wpList_append (v := .slice (some ⟨w.heap.size, 0, none⟩) 0 0) (n := 0) (xs := []) rfl ch_ty rfl rfl rfl (own_empty w _ _) (H.out.alloc _) h1 (by omega) ?_); intro A' c' w5 hown5 hg5 hb5)
    go_ret
    rw [Nat.zero_add] at hown5 hb5
    have hx : Ext w w5 := ((Only.refl _ _).alloc (.cells #[] 61)).grown hg5 (fun g hg => by simp [Value.ownBlock] at hg; left; omega)
    refine ⟨A', c', ?_, by simpa using hown5, hx, fun g hg => ?_⟩
    · simp [Nat.zero_add]
    · rcases hb5 with h | h <;> rw [h] at hg <;> simp [Value.ownBlock] at hg <;> omega
theorem CloneChs_f {w : World} {A : Option Addr} {n c : Nat} {xs : List Ch} (h : SlR chF w A n xs) (hA : A = none → n = 0) (hn : n ≤ 1000000) :
    Calls Try.prog 47 #[.slice A n c] w fun e w' => ∃ A' c', e = .returned (.slice A' xs.length c') ∧ Fresh chF 61 w w' A' c' xs := by
  have hl := h.1
  refine (CloneChs_c (h.rd (by decide)) (ch_enc1 xs) hA hn).mono ?_
  rintro e w' ⟨A', c', rfl, h1, h2, h3⟩
  subst hl
  exact ⟨A', c', rfl, h1, h2, h3⟩
theorem ch_set : ∀ (xs : List Ch) (p : Nat) (f : Ch), p < xs.length → (xs.set p f).flatMap chF.enc = (((xs.flatMap chF.enc).set (p * 3) (S f.1)).set (p * 3 + 1) (S f.2.1)).set (p * 3 + 2) (.bool f.2.2)
  | [], p, f, h => by simp at h
  | x :: xs, 0, f, h => by simp [chF]
  | x :: xs, p + 1, f, h => by
    have ih := ch_set xs p f (by simpa using h)
    rw [List.set_cons_succ, List.flatMap_cons, ih, List.flatMap_cons]
    simp only [chF, List.cons_append, List.nil_append, Nat.succ_mul, List.set_cons_succ]
theorem dropL_at {l : List Ch} (h : Rise ck l) (k : Str) : dropL ck k l = if hasAt ck l k then delAt (posOf ck l k) l else l := by
  induction l with
  | nil => simp [dropL, hasAt]
  | cons x l ih =>
    by_cases hx : ck x < k
    · have ih := ih h.tail
      rw [hasAt_cons_lt hx, posOf_cons_lt hx]
      unfold dropL at ih ⊢
      rw [List.filter_cons, if_pos (by simpa using slt_ne hx), ih]
      split <;> rfl
    · rw [hasAt_cons_ge hx, posOf_cons_ge hx]
      by_cases e : ck x = k
      · rw [if_pos (by simpa using e)]
        unfold dropL
        rw [List.filter_cons, if_neg (by simpa using e)]
        rw [filter_above (fun y hy => e ▸ h.head y hy)]
        rfl
      · rw [if_neg (by simpa using e)]
        have hk : k < ck x := by
          by_cases hl : k < ck x
          · exact hl
          · exact absurd (seq_of hx hl) e
        exact filter_above fun y hy => by
          rcases List.mem_cons.1 hy with rfl | hy
          · exact hk
          · exact slt_trans hk (h.head y hy)
/-- K3. -/
def apply1 (rows : List Ch) (c : Ch) : List Ch := if c.2.2 then dropL ck c.1 rows else putL ck c rows
def applyL (rows l : List Ch) : List Ch := l.foldl apply1 rows
theorem apply1_rise {rows : List Ch} (h : Rise ck rows) (c : Ch) : Rise ck (apply1 rows c) := by
  unfold apply1; split
  · exact rise_filter h _
  · exact rise_putL h _
theorem apply1_len (rows : List Ch) (c : Ch) : (apply1 rows c).length ≤ rows.length + 1 := by
  unfold apply1; split
  · exact Nat.le_succ_of_le (List.length_filter_le _ _)
  · exact length_putL _ _
theorem applyL_snoc (rows l : List Ch) {k : Nat} {c : Ch} (h : l[k]? = some c) : applyL rows (l.take (k + 1)) = apply1 (applyL rows (l.take k)) c := by
  unfold applyL
  rw [List.take_add_one, h, List.foldl_append]
  rfl
theorem applyL_len : ∀ (rows l : List Ch), (applyL rows l).length ≤ rows.length + l.length
  | _, [] => Nat.le_refl _
  | rows, c :: l => by
    have h1 := applyL_len (apply1 rows c) l
    have h2 := apply1_len rows c
    show (applyL (apply1 rows c) l).length ≤ _
    rw [List.length_cons]; omega
theorem applyL_rise : ∀ {rows : List Ch} (_ : Rise ck rows) (l : List Ch), Rise ck (applyL rows l)
  | _, h, [] => h
  | _, h, c :: l => applyL_rise (apply1_rise h c) l
end Go.Proofs.Ytaphmmobmadfoaa

/- files.Get, the document's Get; Check and the document's fault. -/
namespace Go.Proofs.Ytaphmmobmadfoaa
open Go Go.RowKit
abbrev fk : File → Str := fun f => f.1
def getT (k : Str) (xs : List File) : Str := ((getL fk k xs).map (·.2)).getD []
def getB (k : Str) (xs : List File) : Bool := (getL fk k xs).isSome
theorem find?_take_none {α : Type} {p : α → Bool} {xs : List α} {k : Nat} {x : α} (h : (xs.take k).find? p = none) (hx : xs[k]? = some x) : (xs.take (k + 1)).find? p = if p x then some x else none := by
  rw [List.take_add_one, hx, List.find?_append, h]
  cases hp : p x <;> simp [hp]
theorem find?_of_take {α : Type} {p : α → Bool} {xs : List α} {k : Nat} {x : α} (h : (xs.take k).find? p = some x) : xs.find? p = some x := by
  rw [← List.take_append_drop k xs, List.find?_append, h]; rfl
end Go.Proofs.Ytaphmmobmadfoaa

/- files.Put, the document's Put. -/
namespace Go.Proofs.Ytaphmmobmadfoaa
open Go Go.RowKit
theorem SlR.none_len {α : Type} {T : Flat α} {w : World} {A : Option Addr} {n : Nat} {xs : List α} (h : SlR T w A n xs) (hA : A = none) : n = 0 := by
  rcases Nat.eq_zero_or_pos n with h0 | h0
  · exact h0
  · obtain ⟨b, o, e, _⟩ := h.2 h0
    rw [hA] at e; cases e
end Go.Proofs.Ytaphmmobmadfoaa
