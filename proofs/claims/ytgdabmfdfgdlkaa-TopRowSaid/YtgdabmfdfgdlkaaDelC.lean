/- slices.Delete of one change. -/
import Derived.Test.YtgdabmfdfgdlkaaInsC
namespace Go.Proofs.Ytgdabmfdfgdlkaa
open Go Go.RowKit
section
variable {P : Program}
theorem goes_append_room {w : World} {o : Oper} {a : Act} {K : Value → World → Prop} {t e : TypeId} {k : Nat} (hu : P.underlying t = some (.slice e)) (hz : (P.info? e).map (·.size) = some k) {s x : Operand}
    (ho : o.op = .call { callee := .builtin .append, args := #[s, x], argTypes := #[t, t] }) {g n cap : Nat} (hs : a.eval s = .slice (some ⟨g, 0, none⟩) n cap) {b so m c : Nat} (hx : a.eval x = .slice (some ⟨b, so, none⟩) m c)
    {cur news : List Value} (hg : Cs w g e cur.toArray) (hl : news.length = m * k) (hsrc : ∀ j u, news[j]? = some u → w.cell? ⟨b, so + j, none⟩ = some u) (hroom : n + m ≤ cap) (hfit : n * k + news.length ≤ cur.length) (h1 : ∀ u ∈ news, u.oneCell' = true)
    (h : ∀ w', Cs w' g e (cur.take (n * k) ++ news ++ cur.drop (n * k + news.length)).toArray → Only (fun x => x = g) w w' → K (.slice (some ⟨g, 0, none⟩) (n + m : Nat) cap) w') : Mix.goes P o a w K := by
  cases hq : P.info? e with
  | none => simp [hq] at hz
  | some i =>
    have hi : i.size = k := by simpa [hq] using hz
    have hrun := run_append_room (P := P) w t o.type e i hu hq g n cap cur.toArray hg ⟨b, so, none⟩ m c news (by rw [hi]; exact hl) (fun j v hj => by rw [add_plain_]; exact hsrc j v hj) h1 hroom (by rw [hi]; simpa using hfit)
    unfold Mix.goes Mix.goesUpon execOp
    simp only [ho, resolve, invoke, builtin, Sem.run_bind, Sem.run_pure, Result.andThen_ok, List.map_toArray, List.map_cons, List.map_nil, hs, hx, hrun]
    rw [hi]
    exact h _ (setRow_heap w g _ _ e _ hg) ⟨rfl, rfl, rfl, by simp [World.setRow], fun k _ hne => setRow_other w g k _ hne⟩
end
def delAt {α : Type} (i : Nat) (xs : List α) : List α := xs.take i ++ xs.drop (i + 1)
theorem ch_zero (w : World) : (zeroValue 61).run Try.prog w = .ok (.agg #[S [], S [], .bool false]) w := Try.zeroValue61 w
set_option maxRecDepth 100000 in
set_option maxHeartbeats 2000000 in
theorem DelCh_c {w : World} {g n c i : Nat} {xs : List Ch} {rest : List Value} (hg : Cs w g 61 (xs.flatMap chF.enc ++ rest).toArray) (hl : xs.length = n) (hr : (xs.flatMap chF.enc ++ rest).length = c * 3) (hi : i < n) (hnc : n ≤ c) (hc : c ≤ maxLen) (hn : n ≤ 1000000) :
    Calls Try.prog 58 #[.slice (some ⟨g, 0, none⟩) n c, .int .i64 i, .int .i64 ((i : Int) + 1)] w fun e w' =>
      ∃ rest', e = .returned (.slice (some ⟨g, 0, none⟩) (n - 1 : Nat) c) ∧ Cs w' g 61 ((delAt i xs).flatMap chF.enc ++ rest').toArray ∧ ((delAt i xs).flatMap chF.enc ++ rest').length = c * 3 ∧ Only (fun b => b = g) w w' := by
  unfold maxLen at hc
  have HG := Lib.hid hg
  have HL := Lib.hid hl
  have HR := Lib.hid hr
  clear hg hl hr
  go_enter Try.func58, Try.ntmps58
  have hX : (xs.flatMap chF.enc).length = n * 3 := by rw [length_flatMap_enc, HL.out]; rfl
  have hD : ((xs.drop (i + 1)).flatMap chF.enc).length = (n - (i + 1)) * 3 := by rw [length_flatMap_enc, List.length_drop, HL.out]; rfl
  have hDe : (xs.drop (i + 1)).flatMap chF.enc = (xs.flatMap chF.enc).drop ((i + 1) * 3) := drop_flatMap chF xs (i + 1)
  have hTe : (xs.take i).flatMap chF.enc = (xs.flatMap chF.enc).take (i * 3) := take_flatMap chF xs i
  have HXl := Lib.hid hX
  have HDl := Lib.hid hD
  have HDe := Lib.hid hDe
  have HTe := Lib.hid hTe
  clear hX hD hDe hTe
  have hne : ((i : Int) == (i : Int) + 1) = false := by rw [beq_eq_false_iff_ne]; omega
  go_wp2
  refine Mix.wp_draw [6] 100 (Cl w (fun b => b = g)) (by kernel_rfl) (by kernel_rfl) (Cl.of (Only.refl _ _).drew) ?_
  (repeat' (first | (refine Mix.lex_quiet0 rfl rfl rfl ?_; intro K hK; go_big_quiet_op; go_big_quiet_on) | (refine Mix.lex_quietG rfl rfl rfl (by with_reducible rfl) rfl rfl ?_; intro K hK; go_big_quiet_op; go_big_quiet_on) | ((first | refine Mix.lex_skipT rfl rfl rfl (by with_reducible rfl) ?_ | refine Mix.lex_skipF rfl rfl rfl (by with_reducible rfl) ?_ | refine Mix.lex_skipU rfl rfl rfl (by with_reducible rfl) ?_); simp only [Act.put, List.setIfInBounds_toArray, List.set_cons_succ, List.set_cons_zero]) | (refine Mix.lex_part rfl rfl rfl rfl (fun hq => ?_) (fun hq => ?_) <;> (fail_if_success (guard_hyp hq :ₛ true = true)) <;> (fail_if_success (guard_hyp hq :ₛ false = false)) <;> first | (exfalso; cases hq; done) | (exfalso; simp only [decide_eq_true_eq, decide_eq_false_iff_not, beq_iff_eq, beq_eq_false_iff_ne, ne_eq, Int.not_lt, Int.not_le] at hq; omega) | simp only [Act.put, List.setIfInBounds_toArray, List.set_cons_succ, List.set_cons_zero])))
  refine Mix.lex_goes0 rfl rfl ?_
  obtain ⟨so, hso, hso'⟩ : ∃ so, (if c = i + 1 then some (⟨g, 0, none⟩ : Addr) else some ⟨g, (i + 1) * 3, none⟩) = some ⟨g, so, none⟩ ∧ (i + 1 < n → so = (i + 1) * 3) := by
    by_cases h : c = i + 1
    · exact ⟨0, by rw [if_pos h], fun h' => by omega⟩
    · exact ⟨_, by rw [if_neg h], fun _ => rfl⟩
  simp only [hso]
  intro K hK
  have HSO := Lib.hid hso'
  clear hso hso'
  refine goes_append_room Try.underlying59 (k := 3) (by kernel_rfl) rfl (m := n - (i + 1)) (n := i) rfl rfl (cur := xs.flatMap chF.enc ++ rest) (news := (xs.drop (i + 1)).flatMap chF.enc) HG.out.drew HDl.out ?_ (by omega) ?_ (ch_enc1 _) ?_
  · intro j u hu
    have hj := (List.getElem?_eq_some_iff.1 hu).1
    rw [HDl.out] at hj
    rw [HSO.out (by omega)]
    rw [HDe.out, List.getElem?_drop] at hu
    refine (HG.out.drew.cell _).trans ?_
    rw [List.getElem?_toArray, List.getElem?_append_left (by rw [HXl.out]; omega)]
    exact hu
  · rw [HR.out, HDl.out]; omega
  intro u hu hx
  have hcur : (xs.flatMap chF.enc ++ rest).take (i * 3) ++ (xs.drop (i + 1)).flatMap chF.enc ++ (xs.flatMap chF.enc ++ rest).drop (i * 3 + ((xs.drop (i + 1)).flatMap chF.enc).length) = (delAt i xs).flatMap chF.enc ++ (xs.flatMap chF.enc ++ rest).drop ((n - 1) * 3) := by
    rw [List.take_append_of_le_length (by rw [HXl.out]; omega), ← HTe.out, delAt, List.flatMap_append, HDl.out]
    congr 2
    omega
  rw [hcur] at hu
  have hn1 : i + (n - (i + 1)) = n - 1 := by omega
  rw [hn1]
  obtain ⟨R, hR⟩ : ∃ R, R = (xs.flatMap chF.enc ++ rest).drop ((n - 1) * 3) := ⟨_, rfl⟩
  have HRl : Hid (R.length = (c - (n - 1)) * 3) := by
    rw [Hid, hR, List.length_drop, HR.out]; omega
  have HLl : Hid (((delAt i xs).flatMap chF.enc).length = (n - 1) * 3) := by
    rw [Hid, length_flatMap_enc, delAt, List.length_append, List.length_take, List.length_drop, HL.out, Nat.min_eq_left (by omega)]
    show (i + (n - (i + 1))) * 3 = _
    omega
  rw [← hR] at hu
  have HU := Lib.hid hu
  have HX := Lib.hid ((Only.refl (fun b => b = g) w).drew.trans hx fun _ _ h => h)
  refine hK _ _ (fun _ => Cl.of HX.out) ?_
  clear hK K hu hx HG HR HXl HDl HDe HTe HSO hcur hR hn1
  simp only [Act.put, List.setIfInBounds_toArray, List.set_cons_succ, List.set_cons_zero]
  (repeat' (first | (refine Mix.lex_quiet0 rfl rfl rfl ?_; intro K hK; go_big_quiet_op; go_big_quiet_on) | (refine Mix.lex_quietG rfl rfl rfl (by with_reducible rfl) rfl rfl ?_; intro K hK; go_big_quiet_op; go_big_quiet_on) | ((first | refine Mix.lex_skipT rfl rfl rfl (by with_reducible rfl) ?_ | refine Mix.lex_skipF rfl rfl rfl (by with_reducible rfl) ?_ | refine Mix.lex_skipU rfl rfl rfl (by with_reducible rfl) ?_); simp only [Act.put, List.setIfInBounds_toArray, List.set_cons_succ, List.set_cons_zero]) | (refine Mix.lex_part rfl rfl rfl rfl (fun hq => ?_) (fun hq => ?_) <;> (fail_if_success (guard_hyp hq :ₛ true = true)) <;> (fail_if_success (guard_hyp hq :ₛ false = false)) <;> first | (exfalso; cases hq; done) | (exfalso; simp only [decide_eq_true_eq, decide_eq_false_iff_not, beq_iff_eq, beq_eq_false_iff_ne, ne_eq, Int.not_lt, Int.not_le] at hq; omega) | simp only [Act.put, List.setIfInBounds_toArray, List.set_cons_succ, List.set_cons_zero])))
  refine Mix.lex_nil ?_
  obtain ⟨D, hD⟩ : ∃ D, D = (delAt i xs).flatMap chF.enc := ⟨_, rfl⟩
  rw [← hD] at HU HLl
  have HD := Lib.hid hD
  clear hD
  have e3 : n - (n - 1) = 1 := by omega
  go_wp2_with (with_reducible refine wpList_clear_k rfl Try.underlying59 ch_zero rfl rfl (n := 1) (cur := D ++ R) HU.out ?_ ?_ ?_)
  · show (n - 1) * 3 + 1 * 3 ≤ _
    rw [List.length_append, HLl.out, HRl.out]; omega
  · intro v hv
    have hv : v ∈ [S [], S [], Value.bool false] := hv
    have : v = S [] ∨ v = S [] ∨ v = .bool false := by simpa using hv
    rcases this with rfl | rfl | rfl <;> rfl
  intro v hv hx2
  have fin : Hid (∃ R', (D ++ R).take ((n - 1) * 3) ++ ((Builtin.zeroCells #[S [], S [], .bool false] 1).toList ++ (D ++ R).drop ((n - 1) * 3 + 3)) = D ++ R' ∧ (D ++ R').length = c * 3) := by
    refine ⟨(Builtin.zeroCells #[S [], S [], .bool false] 1).toList ++ R.drop 3, ?_, ?_⟩
    · rw [List.take_left' HLl.out, ← List.drop_drop, List.drop_left' HLl.out]
    · rw [List.length_append, List.length_append, length_zeroCells, HLl.out, List.length_drop, HRl.out]
      show (n - 1) * 3 + (1 * 3 + _) = _
      omega
  obtain ⟨R', hR1, hR2⟩ := fin.out
  rw [hR1] at hv
  have HV := Lib.hid hv
  have HX2 := Lib.hid (HX.out.trans hx2 fun _ _ h => h)
  clear hv hx2 hR1 fin HU HRl HLl HX
  go_wp2
  go_ret
  exact ⟨R', rfl, by rw [← HD.out]; exact HV.out, by rw [← HD.out]; exact hR2, HX2.out⟩
end Go.Proofs.Ytgdabmfdfgdlkaa
