/- files.Put, the document's Put. -/
import Derived.Test.YtnplipljfmnjgaaDoorFiles1
import Derived.Test.YtnplipljfmnjgaaDoorIns
namespace Go.Proofs.YtnplipljfmnjgaaDoor
open Go Go.RowKit
theorem CloneFiles_c {w : World} {A : Option Addr} {n c : Nat} {cs : List Value} (h : Rd w A n 2 cs) (h1 : ∀ u ∈ cs, u.oneCell' = true) (hA : A = none → n = 0) (hn : n ≤ 1000000) :
    Calls Tryd.prog 24 #[.slice A n c] w fun e w' => ∃ A' c', e = .returned (.slice A' n c') ∧ w'.ownsRow 0 47 2 (.slice A' n c') n cs ∧ Ext w w' ∧ ∀ g, (Value.slice A' n c').ownBlock = some g → w.heap.size ≤ g := by
  have h2 := fun (W : World) => Lib.run_eql_slice_nil (P := Tryd.prog) W 22 47 A n c 0 0 Tryd.underlying22
  rcases A with _ | ad
  · obtain rfl := hA rfl
    obtain rfl : cs = [] := List.eq_nil_of_length_eq_zero (by simpa using h.1)
    go_enter Tryd.func24, Tryd.ntmps24
    go_wp2
    go_ret
    exact ⟨none, 0, rfl, World.ownsRow_nil _ _ _ _, Only.refl _ _, fun g hg => by simp [Value.ownBlock] at hg⟩
  · have H := Lib.hid h
    clear h
    go_enter Tryd.func24, Tryd.ntmps24
    go_wp2_with (at_builtin; go_must (refine wpList_append (v := .slice (some ⟨w.heap.size, 0, none⟩) 0 0) (n := 0) (xs := []) rfl file_ty rfl rfl rfl (own_empty w _ _) (H.out.alloc _) h1 (by omega) ?_); intro A' c' w5 hown5 hg5 hb5)
    go_ret
    rw [Nat.zero_add] at hown5 hb5
    have hx : Ext w w5 := ((Only.refl _ _).alloc (.cells #[] 47)).grown hg5 (fun g hg => by simp [Value.ownBlock] at hg; left; omega)
    refine ⟨A', c', ?_, by simpa using hown5, hx, fun g hg => ?_⟩
    · simp [Nat.zero_add]
    · rcases hb5 with h | h <;> rw [h] at hg <;> simp [Value.ownBlock] at hg <;> omega
theorem CloneFiles_f {w : World} {A : Option Addr} {n c : Nat} {xs : List File} (h : SlR fileF w A n xs) (hA : A = none → n = 0) (hn : n ≤ 1000000) :
    Calls Tryd.prog 24 #[.slice A n c] w fun e w' => ∃ A' c', e = .returned (.slice A' xs.length c') ∧ Fresh fileF 47 w w' A' c' xs := by
  have hl := h.1
  refine (CloneFiles_c (h.rd (by decide)) (file_enc1 xs) hA hn).mono ?_
  rintro e w' ⟨A', c', rfl, h1, h2, h3⟩
  subst hl
  exact ⟨A', c', rfl, h1, h2, h3⟩
theorem file_set : ∀ (xs : List File) (p : Nat) (f : File), p < xs.length → (xs.set p f).flatMap fileF.enc = ((xs.flatMap fileF.enc).set (p * 2) (S f.1)).set (p * 2 + 1) (S f.2)
  | [], p, f, h => by simp at h
  | x :: xs, 0, f, h => by simp [fileF]
  | x :: xs, p + 1, f, h => by
    have ih := file_set xs p f (by simpa using h)
    rw [List.set_cons_succ, List.flatMap_cons, ih, List.flatMap_cons]
    simp only [fileF, List.cons_append, List.nil_append, Nat.succ_mul, List.set_cons_succ]
theorem SlR.none_len {α : Type} {T : Flat α} {w : World} {A : Option Addr} {n : Nat} {xs : List α} (h : SlR T w A n xs) (hA : A = none) : n = 0 := by
  rcases Nat.eq_zero_or_pos n with h0 | h0
  · exact h0
  · obtain ⟨b, o, e, _⟩ := h.2 h0
    rw [hA] at e; cases e
set_option maxRecDepth 100000 in
set_option maxHeartbeats 1000000 in
theorem Put_c {w : World} {A : Option Addr} {n c : Nat} {xs : List File} (h : SlR fileF w A n xs) (hn : n ≤ 100000) (f : File) (hr : Rise fk xs) :
    Calls Tryd.prog 42 #[.slice A n c, .agg #[S f.1, S f.2]] w fun e w' => ∃ A' c', e = .returned (.slice A' (putL fk f xs).length c') ∧ Fresh fileF 47 w w' A' c' (putL fk f xs) := by
  obtain ⟨w0, hw0⟩ : ∃ w0, w0 = w.alloc (.cells #[S f.1, S f.2] 47) := ⟨_, rfl⟩
  have hx0 : Ext w w0 := by rw [hw0]; exact (Only.refl No w).alloc _
  have hC := CloneFiles_f (c := c) (h.ext hx0) h.none_len (by omega)
  have hP := posOf_le (key := fk) xs f.1
  have hl := h.1
  have hPA := putL_at hr f
  have hB : Cs w0 w.heap.size 47 #[S f.1, S f.2] := by rw [hw0]; exact Cs.new _ _ _
  have hbs : w.heap.size < w0.heap.size := hB.lt
  obtain ⟨b, hb⟩ : ∃ b, b = hasAt fk xs f.1 := ⟨_, rfl⟩
  obtain ⟨p, hp⟩ : ∃ p, p = posOf fk xs f.1 := ⟨_, rfl⟩
  have hF : ∀ {v : World} {A' : Option Addr} {c' : Nat}, Fresh fileF 47 w0 v A' c' xs → Calls Tryd.prog 53 #[.slice A' xs.length c', S f.1] v fun e w' => e = .returned (.tuple #[.int .i64 (p : Nat), .bool b]) ∧ Ext v w' := fun hf => by
    rw [hp, hb]
    exact find_c (hf.row (by decide)) (by omega) f.1 hr
  rw [← hb, ← hp] at hPA
  rw [← hp] at hP
  have HPB : Hid (b = true → p < xs.length) := fun e => by
    rw [e] at hb
    unfold hasAt at hb
    rw [← hp] at hb
    by_cases hlt : p < xs.length
    · exact hlt
    · rw [List.getElem?_eq_none (by omega)] at hb; cases hb
  have HPA := Lib.hid hPA
  have HF : Hid (∀ {v : World} {A' : Option Addr} {c' : Nat}, Fresh fileF 47 w0 v A' c' xs → Calls Tryd.prog 53 #[.slice A' xs.length c', S f.1] v fun e w' => e = .returned (.tuple #[.int .i64 (p : Nat), .bool b]) ∧ Ext v w') := @hF
  have HB := Lib.hid hB
  have HX0 := Lib.hid hx0
  have HL := Lib.hid hl
  have c0 : ∀ ξ : X w0 No, ξ.v.cell? ⟨w.heap.size, 0, none⟩ = some (S f.1) := hB.x id 0
  have c1 : ∀ ξ : X w0 No, ξ.v.cell? ⟨w.heap.size, 1, none⟩ = some (S f.2) := hB.x id 1
  clear hPA hF hb hp hB hx0 hl
  go_enter Tryd.func42, Tryd.ntmps42
  go_upto_region 1 with fail
  rw [← hw0]
  clear hw0
  go_wp2_with (first | (refine Mix.wpList_guarded rfl ?_; (repeat' (first | (refine Mix.lex_quiet0 rfl rfl rfl ?_; intro K hK; go_big_quiet_op; go_big_quiet_on) | (refine Mix.lex_quietG rfl rfl rfl (by with_reducible rfl) rfl rfl ?_; intro K hK; go_big_quiet_op; go_big_quiet_on) | ((first | refine Mix.lex_skipT rfl rfl rfl (by with_reducible rfl) ?_ | refine Mix.lex_skipF rfl rfl rfl (by with_reducible rfl) ?_ | refine Mix.lex_skipU rfl rfl rfl (by with_reducible rfl) ?_); simp only [Act.put, List.setIfInBounds_toArray, List.set_cons_succ, List.set_cons_zero]) | (refine Mix.lex_part rfl rfl rfl rfl (fun hq => ?_) (fun hq => ?_) <;> (fail_if_success (guard_hyp hq :ₛ true = true)) <;> (fail_if_success (guard_hyp hq :ₛ false = false)) <;> first | (exfalso; cases hq; done) | (exfalso; simp only [decide_eq_true_eq, decide_eq_false_iff_not, beq_iff_eq, beq_eq_false_iff_ne, ne_eq, Int.not_lt, Int.not_le] at hq; omega) | simp only [Act.put, List.setIfInBounds_toArray, List.set_cons_succ, List.set_cons_zero]))); all_goals (refine Mix.lex_nil ?_)) | (refine Mix.wp_still (by kernel_rfl) (by kernel_rfl) ?_; (repeat' (first | (refine Mix.lex_quiet0 rfl rfl rfl ?_; intro K hK; go_big_quiet_op; go_big_quiet_on) | (refine Mix.lex_quietG rfl rfl rfl (by with_reducible rfl) rfl rfl ?_; intro K hK; go_big_quiet_op; go_big_quiet_on) | ((first | refine Mix.lex_skipT rfl rfl rfl (by with_reducible rfl) ?_ | refine Mix.lex_skipF rfl rfl rfl (by with_reducible rfl) ?_ | refine Mix.lex_skipU rfl rfl rfl (by with_reducible rfl) ?_); simp only [Act.put, List.setIfInBounds_toArray, List.set_cons_succ, List.set_cons_zero]) | (refine Mix.lex_part rfl rfl rfl rfl (fun hq => ?_) (fun hq => ?_) <;> (fail_if_success (guard_hyp hq :ₛ true = true)) <;> (fail_if_success (guard_hyp hq :ₛ false = false)) <;> first | (exfalso; cases hq; done) | (exfalso; simp only [decide_eq_true_eq, decide_eq_false_iff_not, beq_iff_eq, beq_eq_false_iff_ne, ne_eq, Int.not_lt, Int.not_le] at hq; omega) | simp only [Act.put, List.setIfInBounds_toArray, List.set_cons_succ, List.set_cons_zero]))); all_goals (refine Mix.lex_nil ?_)))
  refine hC.mono ?_
  clear hC
  rintro e u ⟨A', c', rfl, hf⟩
  have F1 := Lib.hid hf
  obtain ⟨ξ, rfl⟩ : ∃ ξ : X w0 No, u = ξ.v := ⟨⟨u, hf.ext⟩, rfl⟩
  clear hf
  go_wp2_with (first | (refine Mix.wpList_guarded rfl ?_; (repeat' (first | (refine Mix.lex_quiet0 rfl rfl rfl ?_; intro K hK; go_big_quiet_op; go_big_quiet_on) | (refine Mix.lex_quietG rfl rfl rfl (by with_reducible rfl) rfl rfl ?_; intro K hK; go_big_quiet_op; go_big_quiet_on) | ((first | refine Mix.lex_skipT rfl rfl rfl (by with_reducible rfl) ?_ | refine Mix.lex_skipF rfl rfl rfl (by with_reducible rfl) ?_ | refine Mix.lex_skipU rfl rfl rfl (by with_reducible rfl) ?_); simp only [Act.put, List.setIfInBounds_toArray, List.set_cons_succ, List.set_cons_zero]) | (refine Mix.lex_part rfl rfl rfl rfl (fun hq => ?_) (fun hq => ?_) <;> (fail_if_success (guard_hyp hq :ₛ true = true)) <;> (fail_if_success (guard_hyp hq :ₛ false = false)) <;> first | (exfalso; cases hq; done) | (exfalso; simp only [decide_eq_true_eq, decide_eq_false_iff_not, beq_iff_eq, beq_eq_false_iff_ne, ne_eq, Int.not_lt, Int.not_le] at hq; omega) | simp only [Act.put, List.setIfInBounds_toArray, List.set_cons_succ, List.set_cons_zero]))); all_goals (refine Mix.lex_nil ?_)) | (refine Mix.wp_still (by kernel_rfl) (by kernel_rfl) ?_; (repeat' (first | (refine Mix.lex_quiet0 rfl rfl rfl ?_; intro K hK; go_big_quiet_op; go_big_quiet_on) | (refine Mix.lex_quietG rfl rfl rfl (by with_reducible rfl) rfl rfl ?_; intro K hK; go_big_quiet_op; go_big_quiet_on) | ((first | refine Mix.lex_skipT rfl rfl rfl (by with_reducible rfl) ?_ | refine Mix.lex_skipF rfl rfl rfl (by with_reducible rfl) ?_ | refine Mix.lex_skipU rfl rfl rfl (by with_reducible rfl) ?_); simp only [Act.put, List.setIfInBounds_toArray, List.set_cons_succ, List.set_cons_zero]) | (refine Mix.lex_part rfl rfl rfl rfl (fun hq => ?_) (fun hq => ?_) <;> (fail_if_success (guard_hyp hq :ₛ true = true)) <;> (fail_if_success (guard_hyp hq :ₛ false = false)) <;> first | (exfalso; cases hq; done) | (exfalso; simp only [decide_eq_true_eq, decide_eq_false_iff_not, beq_iff_eq, beq_eq_false_iff_ne, ne_eq, Int.not_lt, Int.not_le] at hq; omega) | simp only [Act.put, List.setIfInBounds_toArray, List.set_cons_succ, List.set_cons_zero]))); all_goals (refine Mix.lex_nil ?_)))
  refine (HF.out F1.out).mono ?_
  rintro e u ⟨rfl, hu⟩
  have F2 := Lib.hid (F1.out.on hu)
  obtain ⟨ξ, rfl⟩ : ∃ ξ : X w0 No, u = ξ.v := ⟨⟨u, F2.out.ext⟩, rfl⟩
  clear hu F1 HF
  cases b with
  | true =>
    have hp := HPB.out rfl
    obtain ⟨g, rest, rfl, hg, hX, hR, hnc, hm⟩ := own_block F2.out.own (by omega) (by decide)
    have hy : xs[p]? = some xs[p] := List.getElem?_eq_getElem hp
    have hcell : ∀ j, j < 2 → (ξ.v.cell? ⟨g, p * 2 + j, none⟩) = some (((fileF.enc xs[p]))[j]?.getD undef) := fun j hj => by
      obtain ⟨b', o', x', he, _, hx', hc'⟩ := (F2.out.row (by decide)).get hp
      injection he with he
      injection he with he1 he2
      subst he1; subst he2
      rw [hy] at hx'
      injection hx' with hx'
      subst hx'
      have := hc' j ((fileF.enc xs[p])[j]'(by rw [fileF.len]; exact hj)) (List.getElem?_eq_getElem _)
      rw [Nat.zero_add] at this
      rw [List.getElem?_eq_getElem (by rw [fileF.len]; exact hj)]
      exact this
    have d0 : ξ.v.cell? ⟨g, p * 2, none⟩ = some (S (xs[p]).1) := hcell 0 (by omega)
    have d1 : ξ.v.cell? ⟨g, p * 2 + 1, none⟩ = some (S (xs[p]).2) := hcell 1 (by omega)
    have f0 := hg.frozen (p * 2)
    have f1 := hg.frozen (p * 2 + 1)
    have hgn : w0.heap.size ≤ g := F2.out.new g rfl
    have hbg : g ≠ w.heap.size := by omega
    have HG := Lib.hid hg
    have HR := Lib.hid hR
    have HX := Lib.hid hX
    clear hg hR hX hcell hy
    go_wp2_with (first | (refine Mix.wpList_guarded rfl ?_; (repeat' (first | (refine Mix.lex_quiet0 rfl rfl rfl ?_; intro K hK; go_big_quiet_op; go_big_quiet_on) | (refine Mix.lex_quietG rfl rfl rfl (by with_reducible rfl) rfl rfl ?_; intro K hK; go_big_quiet_op; go_big_quiet_on) | ((first | refine Mix.lex_skipT rfl rfl rfl (by with_reducible rfl) ?_ | refine Mix.lex_skipF rfl rfl rfl (by with_reducible rfl) ?_ | refine Mix.lex_skipU rfl rfl rfl (by with_reducible rfl) ?_); simp only [Act.put, List.setIfInBounds_toArray, List.set_cons_succ, List.set_cons_zero]) | (refine Mix.lex_part rfl rfl rfl rfl (fun hq => ?_) (fun hq => ?_) <;> (fail_if_success (guard_hyp hq :ₛ true = true)) <;> (fail_if_success (guard_hyp hq :ₛ false = false)) <;> first | (exfalso; cases hq; done) | (exfalso; simp only [decide_eq_true_eq, decide_eq_false_iff_not, beq_iff_eq, beq_eq_false_iff_ne, ne_eq, Int.not_lt, Int.not_le] at hq; omega) | simp only [Act.put, List.setIfInBounds_toArray, List.set_cons_succ, List.set_cons_zero]))); all_goals (refine Mix.lex_nil ?_)) | (refine Mix.wp_still (by kernel_rfl) (by kernel_rfl) ?_; (repeat' (first | (refine Mix.lex_quiet0 rfl rfl rfl ?_; intro K hK; go_big_quiet_op; go_big_quiet_on) | (refine Mix.lex_quietG rfl rfl rfl (by with_reducible rfl) rfl rfl ?_; intro K hK; go_big_quiet_op; go_big_quiet_on) | ((first | refine Mix.lex_skipT rfl rfl rfl (by with_reducible rfl) ?_ | refine Mix.lex_skipF rfl rfl rfl (by with_reducible rfl) ?_ | refine Mix.lex_skipU rfl rfl rfl (by with_reducible rfl) ?_); simp only [Act.put, List.setIfInBounds_toArray, List.set_cons_succ, List.set_cons_zero]) | (refine Mix.lex_part rfl rfl rfl rfl (fun hq => ?_) (fun hq => ?_) <;> (fail_if_success (guard_hyp hq :ₛ true = true)) <;> (fail_if_success (guard_hyp hq :ₛ false = false)) <;> first | (exfalso; cases hq; done) | (exfalso; simp only [decide_eq_true_eq, decide_eq_false_iff_not, beq_iff_eq, beq_eq_false_iff_ne, ne_eq, Int.not_lt, Int.not_le] at hq; omega) | simp only [Act.put, List.setIfInBounds_toArray, List.set_cons_succ, List.set_cons_zero]))); all_goals (refine Mix.lex_nil ?_)))
    go_ret
    have hS := (HG.out.set_ (p * 2) (S f.1)).set_ (p * 2 + 1) (S f.2)
    have e1 : putL fk f xs = xs.set p f := HPA.out
    have e2 : (xs.set p f).length = xs.length := List.length_set
    have e3 : (((xs.flatMap fileF.enc ++ rest).toArray.setIfInBounds (p * 2) (S f.1)).setIfInBounds (p * 2 + 1) (S f.2)) = ((xs.set p f).flatMap fileF.enc ++ rest).toArray := by
      have hX := HX.out
      rw [show fileF.size = 2 from rfl] at hX
      rw [List.setIfInBounds_toArray, List.setIfInBounds_toArray, file_set xs p f hp, List.set_append_left _ _ (by omega), List.set_append_left _ _ (by rw [List.length_set]; omega)]
    rw [e3] at hS
    have hR := HR.out
    have hO : Only (fun b => b = g) ξ.v ((ξ.v.setCell ⟨g, p * 2, none⟩ (S f.1)).setCell ⟨g, p * 2 + 1, none⟩ (S f.2)) := ((Only.refl _ _).at_ _ _).at_ _ _
    refine ⟨some ⟨g, 0, none⟩, c', by rw [e1, e2]; rfl, ?_⟩
    rw [e1]
    refine Fresh.from (w := w0) ⟨?_, F2.out.ext.trans hO fun b hb e => by omega, fun g' hg' => ?_⟩ HX0.out
    · refine own_of_block hS (Nat.zero_le _) (length_flatMap_enc _ _) ?_ (by rw [e2]; exact hnc) hm
      simp only [List.length_append, length_flatMap_enc, e2] at hR ⊢
      exact hR
    · simp [Value.ownBlock] at hg'
      omega
  | false =>
    obtain ⟨w1, hw1⟩ : ∃ w1, w1 = ξ.v.alloc (.cells #[S f.1, S f.2] 47) := ⟨_, rfl⟩
    have hv : Cs w1 ξ.v.heap.size 47 #[S f.1, S f.2] := by rw [hw1]; exact Cs.new _ _ _
    have hx1 : Ext ξ.v w1 := by rw [hw1]; exact (Only.refl No ξ.v).alloc _
    have F3 := Lib.hid (F2.out.on hx1)
    have hI := InsFile_c (i := p) F3.out.own hP f hv (fun e => by
      have h1 : ξ.v.heap.size < ξ.v.heap.size := (F2.out.own.lt _ e).2
      omega) (by have := HL.out; omega)
    have HI := Lib.hid hI
    clear hI hv hx1
    go_wp2_with fail
    rw [← hw1]
    refine HI.out.mono ?_
    clear hw1 HI
    rintro e u ⟨A2, c2, rfl, h1, h2⟩
    have H1 := Lib.hid h1
    have H2 := Lib.hid h2
    clear h1 h2
    go_wp2_with (first | (refine Mix.wpList_guarded rfl ?_; (repeat' (first | (refine Mix.lex_quiet0 rfl rfl rfl ?_; intro K hK; go_big_quiet_op; go_big_quiet_on) | (refine Mix.lex_quietG rfl rfl rfl (by with_reducible rfl) rfl rfl ?_; intro K hK; go_big_quiet_op; go_big_quiet_on) | ((first | refine Mix.lex_skipT rfl rfl rfl (by with_reducible rfl) ?_ | refine Mix.lex_skipF rfl rfl rfl (by with_reducible rfl) ?_ | refine Mix.lex_skipU rfl rfl rfl (by with_reducible rfl) ?_); simp only [Act.put, List.setIfInBounds_toArray, List.set_cons_succ, List.set_cons_zero]) | (refine Mix.lex_part rfl rfl rfl rfl (fun hq => ?_) (fun hq => ?_) <;> (fail_if_success (guard_hyp hq :ₛ true = true)) <;> (fail_if_success (guard_hyp hq :ₛ false = false)) <;> first | (exfalso; cases hq; done) | (exfalso; simp only [decide_eq_true_eq, decide_eq_false_iff_not, beq_iff_eq, beq_eq_false_iff_ne, ne_eq, Int.not_lt, Int.not_le] at hq; omega) | simp only [Act.put, List.setIfInBounds_toArray, List.set_cons_succ, List.set_cons_zero]))); all_goals (refine Mix.lex_nil ?_)) | (refine Mix.wp_still (by kernel_rfl) (by kernel_rfl) ?_; (repeat' (first | (refine Mix.lex_quiet0 rfl rfl rfl ?_; intro K hK; go_big_quiet_op; go_big_quiet_on) | (refine Mix.lex_quietG rfl rfl rfl (by with_reducible rfl) rfl rfl ?_; intro K hK; go_big_quiet_op; go_big_quiet_on) | ((first | refine Mix.lex_skipT rfl rfl rfl (by with_reducible rfl) ?_ | refine Mix.lex_skipF rfl rfl rfl (by with_reducible rfl) ?_ | refine Mix.lex_skipU rfl rfl rfl (by with_reducible rfl) ?_); simp only [Act.put, List.setIfInBounds_toArray, List.set_cons_succ, List.set_cons_zero]) | (refine Mix.lex_part rfl rfl rfl rfl (fun hq => ?_) (fun hq => ?_) <;> (fail_if_success (guard_hyp hq :ₛ true = true)) <;> (fail_if_success (guard_hyp hq :ₛ false = false)) <;> first | (exfalso; cases hq; done) | (exfalso; simp only [decide_eq_true_eq, decide_eq_false_iff_not, beq_iff_eq, beq_eq_false_iff_ne, ne_eq, Int.not_lt, Int.not_le] at hq; omega) | simp only [Act.put, List.setIfInBounds_toArray, List.set_cons_succ, List.set_cons_zero]))); all_goals (refine Mix.lex_nil ?_)))
    go_ret
    have e1 : putL fk f xs = insAt p f xs := HPA.out
    have e2 : (insAt p f xs).length = xs.length + 1 := by
      simp only [insAt, List.length_append, List.length_take, List.length_cons, List.length_drop]; omega
    refine ⟨A2, c2, by rw [e1, e2]; rfl, ?_⟩
    rw [e1]
    have hs := F3.out.ext.size
    refine Fresh.from (w := w0) ⟨by rw [e2]; exact H1.out, F3.out.ext.trans H2.out.o fun b hb e => ?_, fun g' hg' => ?_⟩ HX0.out
    · have := F3.out.new b e; omega
    · rw [e2] at hg'
      rcases H2.out.b g' hg' with h | h
      · exact F3.out.new g' h
      · omega
end Go.Proofs.YtnplipljfmnjgaaDoor
