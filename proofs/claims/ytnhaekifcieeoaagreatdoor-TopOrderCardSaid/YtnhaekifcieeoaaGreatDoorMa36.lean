/- Put together: Files2, Files3, Said, Same. -/
import Derived.Test.YtnhaekifcieeoaaGreatDoorMa12
import Derived.Test.YtnhaekifcieeoaaGreatDoorMa35
import Derived.Test.YtnhaekifcieeoaaGreatDoorMa14
import Derived.Test.YtnhaekifcieeoaaGreatDoorMa09
/- files.Put, the document's Put. -/
namespace Go.Proofs.YtnhaekifcieeoaaGreatDoor
open Go Go.RowKit
theorem CloneFiles_c {w : World} {A : Option Addr} {n c : Nat} {cs : List Value} (h : Rd w A n 2 cs) (h1 : ∀ u ∈ cs, u.oneCell' = true) (hA : A = none → n = 0) (hn : n ≤ 1000000) :
    Calls Tryz.prog 54 #[.slice A n c] w fun e w' => ∃ A' c', e = .returned (.slice A' n c') ∧ w'.ownsRow 0 75 2 (.slice A' n c') n cs ∧ Ext w w' ∧ ∀ g, (Value.slice A' n c').ownBlock = some g → w.heap.size ≤ g := by
  have h2 := fun (W : World) => Lib.run_eql_slice_nil (P := Tryz.prog) W 22 75 A n c 0 0 Tryz.underlying22
  rcases A with _ | ad
  · obtain rfl := hA rfl
    obtain rfl : cs = [] := List.eq_nil_of_length_eq_zero (by simpa using h.1)
    go_enter Tryz.func54, Tryz.ntmps54
    go_wp2
    go_ret
    exact ⟨none, 0, rfl, World.ownsRow_nil _ _ _ _, Only.refl _ _, fun g hg => by simp [Value.ownBlock] at hg⟩
  · have H := Lib.hid h
    clear h
    go_enter Tryz.func54, Tryz.ntmps54
    go_wp2_with (at_builtin; go_must (refine wpList_append (v := .slice (some ⟨w.heap.size, 0, none⟩) 0 0) (n := 0) (xs := []) rfl file_ty rfl rfl rfl (own_empty w _ _) (H.out.alloc _) h1 (by omega) ?_); intro A' c' w5 hown5 hg5 hb5)
    go_ret
    rw [Nat.zero_add] at hown5 hb5
    have hx : Ext w w5 := ((Only.refl _ _).alloc (.cells #[] 75)).grown hg5 (fun g hg => by simp [Value.ownBlock] at hg; left; omega)
    refine ⟨A', c', ?_, by simpa using hown5, hx, fun g hg => ?_⟩
    · simp [Nat.zero_add]
    · rcases hb5 with h | h <;> rw [h] at hg <;> simp [Value.ownBlock] at hg <;> omega
theorem CloneFiles_f {w : World} {A : Option Addr} {n c : Nat} {xs : List File} (h : SlR fileF w A n xs) (hA : A = none → n = 0) (hn : n ≤ 1000000) :
    Calls Tryz.prog 54 #[.slice A n c] w fun e w' => ∃ A' c', e = .returned (.slice A' xs.length c') ∧ Fresh fileF 75 w w' A' c' xs := by
  have hl := h.1
  refine (CloneFiles_c (h.rd (by decide)) (file_enc1 xs) hA hn).mono ?_
  rintro e w' ⟨A', c', rfl, h1, h2, h3⟩
  subst hl
  exact ⟨A', c', rfl, h1, h2, h3⟩
theorem file_set : ∀ (xs : List File) (p : Nat) (f : File), p < xs.length → (xs.set p f).flatMap fileF.enc = ((xs.flatMap fileF.enc).set (p * 2) (S f.1)).set (p * 2 + 1) (S f.2)
  | [], p, f, h => by simp at h
  | x :: xs, 0, f, h => by simp [fileF]
  | x :: xs, p + 1, f, h => by
    have ih := file_set xs p f (by simpa using h)
    rw [List.set_cons_succ, List.flatMap_cons, ih, List.flatMap_cons]
    simp only [fileF, List.cons_append, List.nil_append, Nat.succ_mul, List.set_cons_succ]
theorem SlR.none_len {α : Type} {T : Flat α} {w : World} {A : Option Addr} {n : Nat} {xs : List α} (h : SlR T w A n xs) (hA : A = none) : n = 0 := by
  rcases Nat.eq_zero_or_pos n with h0 | h0
  · exact h0
  · obtain ⟨b, o, e, _⟩ := h.2 h0
    rw [hA] at e; cases e
set_option maxRecDepth 100000 in
set_option maxHeartbeats 1000000 in
theorem Put_c {w : World} {A : Option Addr} {n c : Nat} {xs : List File} (h : SlR fileF w A n xs) (hn : n ≤ 100000) (f : File) (hr : Rise fk xs) :
    Calls Tryz.prog 32 #[.slice A n c, .agg #[S f.1, S f.2]] w fun e w' => ∃ A' c', e = .returned (.slice A' (putL fk f xs).length c') ∧ Fresh fileF 75 w w' A' c' (putL fk f xs) := by
  obtain ⟨w0, hw0⟩ : ∃ w0, w0 = w.alloc (.cells #[S f.1, S f.2] 75) := ⟨_, rfl⟩
  have hx0 : Ext w w0 := by rw [hw0]; exact (Only.refl No w).alloc _
  have hC := CloneFiles_f (c := c) (h.ext hx0) h.none_len (by omega)
  have hP := posOf_le (key := fk) xs f.1
  have hl := h.1
  have hPA := putL_at hr f
  have hB : Cs w0 w.heap.size 75 #[S f.1, S f.2] := by rw [hw0]; exact Cs.new _ _ _
  have hbs : w.heap.size < w0.heap.size := hB.lt
  obtain ⟨b, hb⟩ : ∃ b, b = hasAt fk xs f.1 := ⟨_, rfl⟩
  obtain ⟨p, hp⟩ : ∃ p, p = posOf fk xs f.1 := ⟨_, rfl⟩
  have hF : ∀ {v : World} {A' : Option Addr} {c' : Nat}, Fresh fileF 75 w0 v A' c' xs → Calls Tryz.prog 46 #[.slice A' xs.length c', S f.1] v fun e w' => e = .returned (.tuple #[.int .i64 (p : Nat), .bool b]) ∧ Ext v w' := fun hf => by
    rw [hp, hb]
    exact find_c (hf.row (by decide)) (by omega) f.1 hr
  rw [← hb, ← hp] at hPA
  rw [← hp] at hP
  have HPB : Hid (b = true → p < xs.length) := fun e => by
    rw [e] at hb
    unfold hasAt at hb
    rw [← hp] at hb
    by_cases hlt : p < xs.length
    · exact hlt
    · rw [List.getElem?_eq_none (by omega)] at hb; cases hb
  have HPA := Lib.hid hPA
  have HF : Hid (∀ {v : World} {A' : Option Addr} {c' : Nat}, Fresh fileF 75 w0 v A' c' xs → Calls Tryz.prog 46 #[.slice A' xs.length c', S f.1] v fun e w' => e = .returned (.tuple #[.int .i64 (p : Nat), .bool b]) ∧ Ext v w') := @hF
  have HB := Lib.hid hB
  have HX0 := Lib.hid hx0
  have HL := Lib.hid hl
  have c0 : ∀ ξ : X w0 No, ξ.v.cell? ⟨w.heap.size, 0, none⟩ = some (S f.1) := hB.x id 0
  have c1 : ∀ ξ : X w0 No, ξ.v.cell? ⟨w.heap.size, 1, none⟩ = some (S f.2) := hB.x id 1
  clear hPA hF hb hp hB hx0 hl
  go_enter Tryz.func32, Tryz.ntmps32
  go_upto_region 1 with fail
  rw [← hw0]
  clear hw0
  go_wp2_with (first | ((first | refine Mix.wpList_guarded rfl ?_ | refine Mix.wp_still (by kernel_rfl) (by kernel_rfl) ?_); (repeat' (first | (refine Mix.lex_quiet0 rfl rfl rfl ?_; intro K hK; go_big_quiet_op; go_big_quiet_on) | (refine Mix.lex_quietG rfl rfl rfl (by with_reducible rfl) rfl rfl ?_; intro K hK; go_big_quiet_op; go_big_quiet_on) | ((first | refine Mix.lex_skipT rfl rfl rfl (by with_reducible rfl) ?_ | refine Mix.lex_skipF rfl rfl rfl (by with_reducible rfl) ?_ | refine Mix.lex_skipU rfl rfl rfl (by with_reducible rfl) ?_); simp only [Act.put, List.setIfInBounds_toArray, List.set_cons_succ, List.set_cons_zero]) | (refine Mix.lex_part rfl rfl rfl rfl (fun hq => ?_) (fun hq => ?_) <;> (fail_if_success (guard_hyp hq :ₛ true = true)) <;> (fail_if_success (guard_hyp hq :ₛ false = false)) <;> first | (exfalso; cases hq; done) | (exfalso; simp only [decide_eq_true_eq, decide_eq_false_iff_not, beq_iff_eq, beq_eq_false_iff_ne, ne_eq, Int.not_lt, Int.not_le] at hq; omega) | simp only [Act.put, List.setIfInBounds_toArray, List.set_cons_succ, List.set_cons_zero]))); all_goals (refine Mix.lex_nil ?_)))
  refine hC.mono ?_
  clear hC
  rintro e u ⟨A', c', rfl, hf⟩
  have F1 := Lib.hid hf
  obtain ⟨ξ, rfl⟩ : ∃ ξ : X w0 No, u = ξ.v := ⟨⟨u, hf.ext⟩, rfl⟩
  clear hf
  go_wp2_with (first | ((first | refine Mix.wpList_guarded rfl ?_ | refine Mix.wp_still (by kernel_rfl) (by kernel_rfl) ?_); (repeat' (first | (refine Mix.lex_quiet0 rfl rfl rfl ?_; intro K hK; go_big_quiet_op; go_big_quiet_on) | (refine Mix.lex_quietG rfl rfl rfl (by with_reducible rfl) rfl rfl ?_; intro K hK; go_big_quiet_op; go_big_quiet_on) | ((first | refine Mix.lex_skipT rfl rfl rfl (by with_reducible rfl) ?_ | refine Mix.lex_skipF rfl rfl rfl (by with_reducible rfl) ?_ | refine Mix.lex_skipU rfl rfl rfl (by with_reducible rfl) ?_); simp only [Act.put, List.setIfInBounds_toArray, List.set_cons_succ, List.set_cons_zero]) | (refine Mix.lex_part rfl rfl rfl rfl (fun hq => ?_) (fun hq => ?_) <;> (fail_if_success (guard_hyp hq :ₛ true = true)) <;> (fail_if_success (guard_hyp hq :ₛ false = false)) <;> first | (exfalso; cases hq; done) | (exfalso; simp only [decide_eq_true_eq, decide_eq_false_iff_not, beq_iff_eq, beq_eq_false_iff_ne, ne_eq, Int.not_lt, Int.not_le] at hq; omega) | simp only [Act.put, List.setIfInBounds_toArray, List.set_cons_succ, List.set_cons_zero]))); all_goals (refine Mix.lex_nil ?_)))
  refine (HF.out F1.out).mono ?_
  rintro e u ⟨rfl, hu⟩
  have F2 := Lib.hid (F1.out.on hu)
  obtain ⟨ξ, rfl⟩ : ∃ ξ : X w0 No, u = ξ.v := ⟨⟨u, F2.out.ext⟩, rfl⟩
  clear hu F1 HF
  cases b with
  | true =>
    have hp := HPB.out rfl
    obtain ⟨g, rest, rfl, hg, hX, hR, hnc, hm⟩ := own_block F2.out.own (by omega) (by decide)
    have hy : xs[p]? = some xs[p] := List.getElem?_eq_getElem hp
    have hcell : ∀ j, j < 2 → (ξ.v.cell? ⟨g, p * 2 + j, none⟩) = some (((fileF.enc xs[p]))[j]?.getD undef) := fun j hj => by
      obtain ⟨b', o', x', he, _, hx', hc'⟩ := (F2.out.row (by decide)).get hp
      injection he with he
      injection he with he1 he2
      subst he1; subst he2
      rw [hy] at hx'
      injection hx' with hx'
      subst hx'
      have := hc' j ((fileF.enc xs[p])[j]'(by rw [fileF.len]; exact hj)) (List.getElem?_eq_getElem _)
      rw [Nat.zero_add] at this
      rw [List.getElem?_eq_getElem (by rw [fileF.len]; exact hj)]
      exact this
    have d0 : ξ.v.cell? ⟨g, p * 2, none⟩ = some (S (xs[p]).1) := hcell 0 (by omega)
    have d1 : ξ.v.cell? ⟨g, p * 2 + 1, none⟩ = some (S (xs[p]).2) := hcell 1 (by omega)
    have f0 := hg.frozen (p * 2)
    have f1 := hg.frozen (p * 2 + 1)
    have hgn : w0.heap.size ≤ g := F2.out.new g rfl
    have hbg : g ≠ w.heap.size := by omega
    have HG := Lib.hid hg
    have HR := Lib.hid hR
    have HX := Lib.hid hX
    clear hg hR hX hcell hy
    go_wp2_with (first | ((first | refine Mix.wpList_guarded rfl ?_ | refine Mix.wp_still (by kernel_rfl) (by kernel_rfl) ?_); (repeat' (first | (refine Mix.lex_quiet0 rfl rfl rfl ?_; intro K hK; go_big_quiet_op; go_big_quiet_on) | (refine Mix.lex_quietG rfl rfl rfl (by with_reducible rfl) rfl rfl ?_; intro K hK; go_big_quiet_op; go_big_quiet_on) | ((first | refine Mix.lex_skipT rfl rfl rfl (by with_reducible rfl) ?_ | refine Mix.lex_skipF rfl rfl rfl (by with_reducible rfl) ?_ | refine Mix.lex_skipU rfl rfl rfl (by with_reducible rfl) ?_); simp only [Act.put, List.setIfInBounds_toArray, List.set_cons_succ, List.set_cons_zero]) | (refine Mix.lex_part rfl rfl rfl rfl (fun hq => ?_) (fun hq => ?_) <;> (fail_if_success (guard_hyp hq :ₛ true = true)) <;> (fail_if_success (guard_hyp hq :ₛ false = false)) <;> first | (exfalso; cases hq; done) | (exfalso; simp only [decide_eq_true_eq, decide_eq_false_iff_not, beq_iff_eq, beq_eq_false_iff_ne, ne_eq, Int.not_lt, Int.not_le] at hq; omega) | simp only [Act.put, List.setIfInBounds_toArray, List.set_cons_succ, List.set_cons_zero]))); all_goals (refine Mix.lex_nil ?_)))
    go_ret
    have hS := (HG.out.set_ (p * 2) (S f.1)).set_ (p * 2 + 1) (S f.2)
    have e1 : putL fk f xs = xs.set p f := HPA.out
    have e2 : (xs.set p f).length = xs.length := List.length_set
    have e3 : (((xs.flatMap fileF.enc ++ rest).toArray.setIfInBounds (p * 2) (S f.1)).setIfInBounds (p * 2 + 1) (S f.2)) = ((xs.set p f).flatMap fileF.enc ++ rest).toArray := by
      have hX := HX.out
      rw [show fileF.size = 2 from rfl] at hX
      rw [List.setIfInBounds_toArray, List.setIfInBounds_toArray, file_set xs p f hp, List.set_append_left _ _ (by omega), List.set_append_left _ _ (by rw [List.length_set]; omega)]
    rw [e3] at hS
    have hR := HR.out
    have hO : Only (fun b => b = g) ξ.v ((ξ.v.setCell ⟨g, p * 2, none⟩ (S f.1)).setCell ⟨g, p * 2 + 1, none⟩ (S f.2)) := ((Only.refl _ _).at_ _ _).at_ _ _
    refine ⟨some ⟨g, 0, none⟩, c', by rw [e1, e2]; rfl, ?_⟩
    rw [e1]
    refine Fresh.from (w := w0) ⟨?_, F2.out.ext.trans hO fun b hb e => by omega, fun g' hg' => ?_⟩ HX0.out
    · refine own_of_block hS (Nat.zero_le _) (length_flatMap_enc _ _) ?_ (by rw [e2]; exact hnc) hm
      simp only [List.length_append, length_flatMap_enc, e2] at hR ⊢
      exact hR
    · simp [Value.ownBlock] at hg'
      omega
  | false =>
    obtain ⟨w1, hw1⟩ : ∃ w1, w1 = ξ.v.alloc (.cells #[S f.1, S f.2] 75) := ⟨_, rfl⟩
    have hv : Cs w1 ξ.v.heap.size 75 #[S f.1, S f.2] := by rw [hw1]; exact Cs.new _ _ _
    have hx1 : Ext ξ.v w1 := by rw [hw1]; exact (Only.refl No ξ.v).alloc _
    have F3 := Lib.hid (F2.out.on hx1)
    have hI := InsFile_c (i := p) F3.out.own hP f hv (fun e => by
      have h1 : ξ.v.heap.size < ξ.v.heap.size := (F2.out.own.lt _ e).2
      omega) (by have := HL.out; omega)
    have HI := Lib.hid hI
    clear hI hv hx1
    go_wp2_with fail
    rw [← hw1]
    refine HI.out.mono ?_
    clear hw1 HI
    rintro e u ⟨A2, c2, rfl, h1, h2⟩
    have H1 := Lib.hid h1
    have H2 := Lib.hid h2
    clear h1 h2
    go_wp2_with (first | ((first | refine Mix.wpList_guarded rfl ?_ | refine Mix.wp_still (by kernel_rfl) (by kernel_rfl) ?_); (repeat' (first | (refine Mix.lex_quiet0 rfl rfl rfl ?_; intro K hK; go_big_quiet_op; go_big_quiet_on) | (refine Mix.lex_quietG rfl rfl rfl (by with_reducible rfl) rfl rfl ?_; intro K hK; go_big_quiet_op; go_big_quiet_on) | ((first | refine Mix.lex_skipT rfl rfl rfl (by with_reducible rfl) ?_ | refine Mix.lex_skipF rfl rfl rfl (by with_reducible rfl) ?_ | refine Mix.lex_skipU rfl rfl rfl (by with_reducible rfl) ?_); simp only [Act.put, List.setIfInBounds_toArray, List.set_cons_succ, List.set_cons_zero]) | (refine Mix.lex_part rfl rfl rfl rfl (fun hq => ?_) (fun hq => ?_) <;> (fail_if_success (guard_hyp hq :ₛ true = true)) <;> (fail_if_success (guard_hyp hq :ₛ false = false)) <;> first | (exfalso; cases hq; done) | (exfalso; simp only [decide_eq_true_eq, decide_eq_false_iff_not, beq_iff_eq, beq_eq_false_iff_ne, ne_eq, Int.not_lt, Int.not_le] at hq; omega) | simp only [Act.put, List.setIfInBounds_toArray, List.set_cons_succ, List.set_cons_zero]))); all_goals (refine Mix.lex_nil ?_)))
    go_ret
    have e1 : putL fk f xs = insAt p f xs := HPA.out
    have e2 : (insAt p f xs).length = xs.length + 1 := by
      simp only [insAt, List.length_append, List.length_take, List.length_cons, List.length_drop]; omega
    refine ⟨A2, c2, by rw [e1, e2]; rfl, ?_⟩
    rw [e1]
    have hs := F3.out.ext.size
    refine Fresh.from (w := w0) ⟨by rw [e2]; exact H1.out, F3.out.ext.trans H2.out.o fun b hb e => ?_, fun g' hg' => ?_⟩ HX0.out
    · have := F3.out.new b e; omega
    · rw [e2] at hg'
      rcases H2.out.b g' hg' with h | h
      · exact F3.out.new g' h
      · omega
end Go.Proofs.YtnhaekifcieeoaaGreatDoor

/- files.Drop, the document's Drop and Put, Check and the document's fault. -/
namespace Go.Proofs.YtnhaekifcieeoaaGreatDoor
open Go Go.RowKit
theorem fenc1 (x : File) : ∀ u ∈ [S x.1, S x.2], u.oneCell' = true := fun u hu => file_enc1 [x] u (by simpa [fileF] using hu)
theorem fenc_one (x : File) : [x].flatMap fileF.enc = [S x.1, S x.2] := rfl
theorem filter_snoc {α : Type} {p : α → Bool} {xs : List α} {k : Nat} {x : α} (hx : xs[k]? = some x) : (xs.take (k + 1)).filter p = (xs.take k).filter p ++ (if p x then [x] else []) := by
  rw [List.take_add_one, hx, List.filter_append]
  cases hp : p x <;> simp [hp]
theorem dropL_cons (k : Str) (x : File) (l : List File) : dropL fk k (x :: l) = (if x.1 = k then [] else [x]) ++ dropL fk k l := by
  unfold dropL
  rw [List.filter_cons]
  by_cases h : x.1 = k <;> simp [fk, h]
theorem putL_cons (f x : File) (l : List File) : putL fk f (x :: l) = if leB f.1 x.1 then [f] ++ (if x.1 = f.1 then [] else [x]) ++ dropL fk f.1 l else [x] ++ putL fk f l := by
  rw [putL]
  split
  · rw [show (x :: l).filter (fun y => decide (fk y ≠ fk f)) = dropL fk f.1 (x :: l) from rfl, dropL_cons, List.append_assoc]
    rfl
  · rfl
def putS (f : File) (l : List File) (b : Bool) : List File := if b then dropL fk f.1 l else putL fk f l
set_option maxRecDepth 100000 in
set_option maxHeartbeats 1000000 in
theorem RPut_c {w : World} {A : Option Addr} {n c : Nat} {xs : List File} (h : SlR fileF w A n xs) (hn : n ≤ 100000) (f : File) :
    Calls Tryz.prog 52 #[.slice A n c, .agg #[S f.1, S f.2]] w fun e w' => ∃ A' c', e = .returned (.slice A' (putL fk f xs).length c') ∧ Fresh fileF 75 w w' A' c' (putL fk f xs) := by
  obtain ⟨w0, hw0⟩ : ∃ w0, w0 = w.alloc (.cells #[S f.1, S f.2] 75) := ⟨_, rfl⟩
  have hx0 : Ext w w0 := by rw [hw0]; exact (Only.refl No w).alloc _
  have hB : Cs w0 w.heap.size 75 #[S f.1, S f.2] := by rw [hw0]; exact Cs.new _ _ _
  have c0 : ∀ ξ : X w0 No, ξ.v.cell? ⟨w.heap.size, 0, none⟩ = some (S f.1) := hB.x id 0
  have c1 : ∀ ξ : X w0 No, ξ.v.cell? ⟨w.heap.size, 1, none⟩ = some (S f.2) := hB.x id 1
  have HX0 := Lib.hid hx0
  have h0 := h.ext hx0
  clear hB hx0 h
  go_enter Tryz.func52, Tryz.ntmps52
  go_upto_region 1 with fail
  rw [← hw0]
  clear hw0
  go_wp2_with (first | ((first | refine Mix.wpList_guarded rfl ?_ | refine Mix.wp_still (by kernel_rfl) (by kernel_rfl) ?_); (repeat' (first | (refine Mix.lex_quiet0 rfl rfl rfl ?_; intro K hK; go_big_quiet_op; go_big_quiet_on) | (refine Mix.lex_quietG rfl rfl rfl (by with_reducible rfl) rfl rfl ?_; intro K hK; go_big_quiet_op; go_big_quiet_on) | ((first | refine Mix.lex_skipT rfl rfl rfl (by with_reducible rfl) ?_ | refine Mix.lex_skipF rfl rfl rfl (by with_reducible rfl) ?_ | refine Mix.lex_skipU rfl rfl rfl (by with_reducible rfl) ?_); simp only [Act.put, List.setIfInBounds_toArray, List.set_cons_succ, List.set_cons_zero]) | (refine Mix.lex_part rfl rfl rfl rfl (fun hq => ?_) (fun hq => ?_) <;> (fail_if_success (guard_hyp hq :ₛ true = true)) <;> (fail_if_success (guard_hyp hq :ₛ false = false)) <;> first | (exfalso; cases hq; done) | (exfalso; simp only [decide_eq_true_eq, decide_eq_false_iff_not, beq_iff_eq, beq_eq_false_iff_ne, ne_eq, Int.not_lt, Int.not_le] at hq; omega) | simp only [Act.put, List.setIfInBounds_toArray, List.set_cons_succ, List.set_cons_zero]))); all_goals (refine Mix.lex_nil ?_)))
  go_loopw [5, 6, 7] (fun v b i wr => ∃ j : Nat, j ≤ n ∧ i = .int .i64 j ∧ ∃ L A' c' d, b = .bool d ∧ v = .slice A' L.length c' ∧ L.length ≤ 2 * j ∧ putL fk f xs = L ++ putS f (xs.drop j) d ∧ Fresh fileF 75 w0 wr A' c' L) (fun _ _ i _ => n - (intOf i).toNat)
  case atStart => exact ⟨0, Nat.zero_le _, rfl, [], none, 0, false, rfl, rfl, by simp, by simp [putS], Fresh.nil _ _ _ _ (Only.refl _ _)⟩
  case round =>
    obtain ⟨j, hj, rfl, L, A', c', d, rfl, rfl, hLn, hL, hf⟩ := hrel
    have F1 := Lib.hid hf
    have HL := Lib.hid hL
    obtain ⟨ξ, rfl⟩ : ∃ ξ : X w0 No, wr = ξ.v := ⟨⟨wr, hf.ext⟩, rfl⟩
    clear hf hL
    by_cases hlt : j < n
    · obtain ⟨b, o, x, rfl, hx, d0, d1⟩ := files_get h0 hlt
      have hdr : Hid (xs.drop j = x :: xs.drop (j + 1)) := by
        obtain ⟨hl, rfl⟩ := List.getElem?_eq_some_iff.1 hx
        exact List.drop_eq_getElem_cons hl
      clear hx
      have HK : Hid (leB f.1 x.1 = false → x.1 ≠ f.1) := fun h => slt_ne (leB_false h)
      obtain ⟨e, he⟩ : ∃ e, e = (x.1 == f.1) := ⟨_, rfl⟩
      have HE : Hid ((if x.1 = f.1 then [] else [x]) = if e then [] else [x]) := by
        rw [Hid, he]
        by_cases h : x.1 = f.1 <;> simp [h]
      have hd : (x.1 == f.1) = e := he.symm
      have HK2 : Hid (leB f.1 x.1 = false → e = false) := fun h => by rw [he]; simpa using HK.out h
      clear he HK
      cases d with
      | true =>
        have HS : Hid (putS f (xs.drop j) true = (if e then [] else [x]) ++ putS f (xs.drop (j + 1)) true) := by
          rw [Hid, hdr.out, ← HE.out]; exact dropL_cons _ _ _
        clear HE hdr HK2
        cases e with
        | true =>
          go_wp2_with (first | ((first | refine Mix.wpList_guarded rfl ?_ | refine Mix.wp_still (by kernel_rfl) (by kernel_rfl) ?_); (repeat' (first | (refine Mix.lex_quiet0 rfl rfl rfl ?_; intro K hK; go_big_quiet_op; go_big_quiet_on) | (refine Mix.lex_quietG rfl rfl rfl (by with_reducible rfl) rfl rfl ?_; intro K hK; go_big_quiet_op; go_big_quiet_on) | ((first | refine Mix.lex_skipT rfl rfl rfl (by with_reducible rfl) ?_ | refine Mix.lex_skipF rfl rfl rfl (by with_reducible rfl) ?_ | refine Mix.lex_skipU rfl rfl rfl (by with_reducible rfl) ?_); simp only [Act.put, List.setIfInBounds_toArray, List.set_cons_succ, List.set_cons_zero]) | (refine Mix.lex_part rfl rfl rfl rfl (fun hq => ?_) (fun hq => ?_) <;> (fail_if_success (guard_hyp hq :ₛ true = true)) <;> (fail_if_success (guard_hyp hq :ₛ false = false)) <;> first | (exfalso; cases hq; done) | (exfalso; simp only [decide_eq_true_eq, decide_eq_false_iff_not, beq_iff_eq, beq_eq_false_iff_ne, ne_eq, Int.not_lt, Int.not_le] at hq; omega) | simp only [Act.put, List.setIfInBounds_toArray, List.set_cons_succ, List.set_cons_zero]))); all_goals (refine Mix.lex_nil ?_)))
          go_roundw
          case rel => exact ⟨j + 1, by omega, by go_num, L, A', c', true, rfl, rfl, by omega, by rw [HL.out, HS.out]; rfl, F1.out.on (by (repeat (first | exact Only.refl _ _ | refine Only.drew ?_ | refine Only.drewN ?_ _ | refine Only.alloc ?_ _)))⟩
          case measure => simp [intOf]; omega
        | false =>
          go_wp2_with (first | (at_builtin; go_must (refine wpList_append (v := .slice A' L.length c') (n := L.length) (xs := L.flatMap fileF.enc) rfl file_ty rfl rfl rfl (own_ext F1.out.own (by (repeat (first | exact Only.refl _ _ | refine Only.drew ?_ | refine Only.drewN ?_ _ | refine Only.alloc ?_ _)))) (rd_one _ _ [S x.1, S x.2]) (fenc1 x) (by omega) ?_); intro A2 c2 w5 hown5 hg5 hb5) | ((first | refine Mix.wpList_guarded rfl ?_ | refine Mix.wp_still (by kernel_rfl) (by kernel_rfl) ?_); (repeat' (first | (refine Mix.lex_quiet0 rfl rfl rfl ?_; intro K hK; go_big_quiet_op; go_big_quiet_on) | (refine Mix.lex_quietG rfl rfl rfl (by with_reducible rfl) rfl rfl ?_; intro K hK; go_big_quiet_op; go_big_quiet_on) | ((first | refine Mix.lex_skipT rfl rfl rfl (by with_reducible rfl) ?_ | refine Mix.lex_skipF rfl rfl rfl (by with_reducible rfl) ?_ | refine Mix.lex_skipU rfl rfl rfl (by with_reducible rfl) ?_); simp only [Act.put, List.setIfInBounds_toArray, List.set_cons_succ, List.set_cons_zero]) | (refine Mix.lex_part rfl rfl rfl rfl (fun hq => ?_) (fun hq => ?_) <;> (fail_if_success (guard_hyp hq :ₛ true = true)) <;> (fail_if_success (guard_hyp hq :ₛ false = false)) <;> first | (exfalso; cases hq; done) | (exfalso; simp only [decide_eq_true_eq, decide_eq_false_iff_not, beq_iff_eq, beq_eq_false_iff_ne, ne_eq, Int.not_lt, Int.not_le] at hq; omega) | simp only [Act.put, List.setIfInBounds_toArray, List.set_cons_succ, List.set_cons_zero]))); all_goals (refine Mix.lex_nil ?_)))
          go_roundw
          case rel => exact ⟨j + 1, by omega, by go_num, L ++ [x], A2, c2, true, rfl, by simp, by simp; omega, by rw [HL.out, HS.out]; simp, Fresh.grow (h := F1.out.on (by (repeat (first | exact Only.refl _ _ | refine Only.drew ?_ | refine Only.drewN ?_ _ | refine Only.alloc ?_ _)))) (ys := [x]) rfl hown5 hg5 hb5⟩
          case measure => simp [intOf]; omega
      | false =>
        obtain ⟨q, hq⟩ : ∃ q, q = leB f.1 x.1 := ⟨_, rfl⟩
        rw [← hq] at HK2
        cases q with
        | false =>
          have e1 := HK2.out rfl
          subst e1
          have HS : Hid (putS f (xs.drop j) false = [x] ++ putS f (xs.drop (j + 1)) false) := by
            rw [Hid, hdr.out]
            show putL fk f _ = _
            rw [putL_cons, ← hq]; rfl
          have hq' : leB f.1 x.1 = false := hq.symm
          clear HE hdr HK2 hq
          go_wp2_with (first | (at_builtin; go_must (refine wpList_append (v := .slice A' L.length c') (n := L.length) (xs := L.flatMap fileF.enc) rfl file_ty rfl rfl rfl (own_ext F1.out.own (by (repeat (first | exact Only.refl _ _ | refine Only.drew ?_ | refine Only.drewN ?_ _ | refine Only.alloc ?_ _)))) (rd_one _ _ [S x.1, S x.2]) (fenc1 x) (by omega) ?_); intro A2 c2 w5 hown5 hg5 hb5) | ((first | refine Mix.wpList_guarded rfl ?_ | refine Mix.wp_still (by kernel_rfl) (by kernel_rfl) ?_); (repeat' (first | (refine Mix.lex_quiet0 rfl rfl rfl ?_; intro K hK; go_big_quiet_op; go_big_quiet_on) | (refine Mix.lex_quietG rfl rfl rfl (by with_reducible rfl) rfl rfl ?_; intro K hK; go_big_quiet_op; go_big_quiet_on) | ((first | refine Mix.lex_skipT rfl rfl rfl (by with_reducible rfl) ?_ | refine Mix.lex_skipF rfl rfl rfl (by with_reducible rfl) ?_ | refine Mix.lex_skipU rfl rfl rfl (by with_reducible rfl) ?_); simp only [Act.put, List.setIfInBounds_toArray, List.set_cons_succ, List.set_cons_zero]) | (refine Mix.lex_part rfl rfl rfl rfl (fun hq => ?_) (fun hq => ?_) <;> (fail_if_success (guard_hyp hq :ₛ true = true)) <;> (fail_if_success (guard_hyp hq :ₛ false = false)) <;> first | (exfalso; cases hq; done) | (exfalso; simp only [decide_eq_true_eq, decide_eq_false_iff_not, beq_iff_eq, beq_eq_false_iff_ne, ne_eq, Int.not_lt, Int.not_le] at hq; omega) | simp only [Act.put, List.setIfInBounds_toArray, List.set_cons_succ, List.set_cons_zero]))); all_goals (refine Mix.lex_nil ?_)))
          go_roundw
          case rel => exact ⟨j + 1, by omega, by go_num, L ++ [x], A2, c2, false, rfl, by simp, by simp; omega, by rw [HL.out, HS.out]; simp, Fresh.grow (h := F1.out.on (by (repeat (first | exact Only.refl _ _ | refine Only.drew ?_ | refine Only.drewN ?_ _ | refine Only.alloc ?_ _)))) (ys := [x]) rfl hown5 hg5 hb5⟩
          case measure => simp [intOf]; omega
        | true =>
          have HS : Hid (putS f (xs.drop j) false = [f] ++ (if e then [] else [x]) ++ putS f (xs.drop (j + 1)) true) := by
            rw [Hid, hdr.out, ← HE.out]
            show putL fk f _ = _
            rw [putL_cons, ← hq]; rfl
          have hq' : leB f.1 x.1 = true := hq.symm
          clear HE hdr HK2 hq
          go_upto_region 9 with (first | (at_builtin; go_must (refine wpList_append (v := .slice A' L.length c') (n := L.length) (xs := L.flatMap fileF.enc) rfl file_ty rfl rfl rfl (own_ext F1.out.own (by (repeat (first | exact Only.refl _ _ | refine Only.drew ?_ | refine Only.drewN ?_ _ | refine Only.alloc ?_ _)))) (rd_one _ _ [S f.1, S f.2]) (fenc1 f) (by omega) ?_); intro A2 c2 w5 hown5 hg5 hb5) | (refine Mix.wpList_guarded rfl ?_; (repeat' (first | (refine Mix.lex_quiet0 rfl rfl rfl ?_; intro K hK; go_big_quiet_op; go_big_quiet_on) | (refine Mix.lex_quietG rfl rfl rfl (by with_reducible rfl) rfl rfl ?_; intro K hK; go_big_quiet_op; go_big_quiet_on) | ((first | refine Mix.lex_skipT rfl rfl rfl (by with_reducible rfl) ?_ | refine Mix.lex_skipF rfl rfl rfl (by with_reducible rfl) ?_ | refine Mix.lex_skipU rfl rfl rfl (by with_reducible rfl) ?_); simp only [Act.put, List.setIfInBounds_toArray, List.set_cons_succ, List.set_cons_zero]) | (refine Mix.lex_part rfl rfl rfl rfl (fun hq => ?_) (fun hq => ?_) <;> (fail_if_success (guard_hyp hq :ₛ true = true)) <;> (fail_if_success (guard_hyp hq :ₛ false = false)) <;> first | (exfalso; cases hq; done) | (exfalso; simp only [decide_eq_true_eq, decide_eq_false_iff_not, beq_iff_eq, beq_eq_false_iff_ne, ne_eq, Int.not_lt, Int.not_le] at hq; omega) | simp only [Act.put, List.setIfInBounds_toArray, List.set_cons_succ, List.set_cons_zero]))); all_goals (refine Mix.lex_nil ?_)) | (refine Mix.wp_still (by kernel_rfl) (by kernel_rfl) ?_; (repeat' (first | (refine Mix.lex_quiet0 rfl rfl rfl ?_; intro K hK; go_big_quiet_op; go_big_quiet_on) | (refine Mix.lex_quietG rfl rfl rfl (by with_reducible rfl) rfl rfl ?_; intro K hK; go_big_quiet_op; go_big_quiet_on) | ((first | refine Mix.lex_skipT rfl rfl rfl (by with_reducible rfl) ?_ | refine Mix.lex_skipF rfl rfl rfl (by with_reducible rfl) ?_ | refine Mix.lex_skipU rfl rfl rfl (by with_reducible rfl) ?_); simp only [Act.put, List.setIfInBounds_toArray, List.set_cons_succ, List.set_cons_zero]) | (refine Mix.lex_part rfl rfl rfl rfl (fun hq => ?_) (fun hq => ?_) <;> (fail_if_success (guard_hyp hq :ₛ true = true)) <;> (fail_if_success (guard_hyp hq :ₛ false = false)) <;> first | (exfalso; cases hq; done) | (exfalso; simp only [decide_eq_true_eq, decide_eq_false_iff_not, beq_iff_eq, beq_eq_false_iff_ne, ne_eq, Int.not_lt, Int.not_le] at hq; omega) | simp only [Act.put, List.setIfInBounds_toArray, List.set_cons_succ, List.set_cons_zero]))); all_goals (refine Mix.lex_nil ?_)))
          have F2 := Lib.hid (Fresh.grow (h := F1.out.on (by (repeat (first | exact Only.refl _ _ | refine Only.drew ?_ | refine Only.drewN ?_ _ | refine Only.alloc ?_ _)))) (ys := [f]) rfl hown5 hg5 hb5)
          have hLn2 : (L ++ [f]).length ≤ 2 * j + 1 := by simp; omega
          obtain ⟨ξ2, rfl⟩ : ∃ ξ : X w0 No, w5 = ξ.v := ⟨⟨w5, F2.out.ext⟩, rfl⟩
          rw [show (Value.slice A2 (L.length + 1) c2) = Value.slice A2 (L ++ [f]).length c2 by simp]
          obtain ⟨L2, hL2⟩ : ∃ L2, L2 = L ++ [f] := ⟨_, rfl⟩
          rw [← hL2] at F2 hLn2 ⊢
          have HL2 := Lib.hid hL2
          clear hL2 hown5 hg5 hb5 F1
          cases e with
          | true =>
            go_wp2_with (first | ((first | refine Mix.wpList_guarded rfl ?_ | refine Mix.wp_still (by kernel_rfl) (by kernel_rfl) ?_); (repeat' (first | (refine Mix.lex_quiet0 rfl rfl rfl ?_; intro K hK; go_big_quiet_op; go_big_quiet_on) | (refine Mix.lex_quietG rfl rfl rfl (by with_reducible rfl) rfl rfl ?_; intro K hK; go_big_quiet_op; go_big_quiet_on) | ((first | refine Mix.lex_skipT rfl rfl rfl (by with_reducible rfl) ?_ | refine Mix.lex_skipF rfl rfl rfl (by with_reducible rfl) ?_ | refine Mix.lex_skipU rfl rfl rfl (by with_reducible rfl) ?_); simp only [Act.put, List.setIfInBounds_toArray, List.set_cons_succ, List.set_cons_zero]) | (refine Mix.lex_part rfl rfl rfl rfl (fun hq => ?_) (fun hq => ?_) <;> (fail_if_success (guard_hyp hq :ₛ true = true)) <;> (fail_if_success (guard_hyp hq :ₛ false = false)) <;> first | (exfalso; cases hq; done) | (exfalso; simp only [decide_eq_true_eq, decide_eq_false_iff_not, beq_iff_eq, beq_eq_false_iff_ne, ne_eq, Int.not_lt, Int.not_le] at hq; omega) | simp only [Act.put, List.setIfInBounds_toArray, List.set_cons_succ, List.set_cons_zero]))); all_goals (refine Mix.lex_nil ?_)))
            go_roundw
            case rel => exact ⟨j + 1, by omega, by go_num, L2, A2, c2, true, rfl, rfl, by omega, by rw [HL.out, HS.out, HL2.out]; simp, F2.out.on (by (repeat (first | exact Only.refl _ _ | refine Only.drew ?_ | refine Only.drewN ?_ _ | refine Only.alloc ?_ _)))⟩
            case measure => simp [intOf]; omega
          | false =>
            go_wp2_with (first | (at_builtin; go_must (refine wpList_append (v := .slice A2 L2.length c2) (n := L2.length) (xs := L2.flatMap fileF.enc) rfl file_ty rfl rfl rfl (own_ext F2.out.own (by (repeat (first | exact Only.refl _ _ | refine Only.drew ?_ | refine Only.drewN ?_ _ | refine Only.alloc ?_ _)))) (rd_one _ _ [S x.1, S x.2]) (fenc1 x) (by omega) ?_); intro A3 c3 w6 hown6 hg6 hb6) | ((first | refine Mix.wpList_guarded rfl ?_ | refine Mix.wp_still (by kernel_rfl) (by kernel_rfl) ?_); (repeat' (first | (refine Mix.lex_quiet0 rfl rfl rfl ?_; intro K hK; go_big_quiet_op; go_big_quiet_on) | (refine Mix.lex_quietG rfl rfl rfl (by with_reducible rfl) rfl rfl ?_; intro K hK; go_big_quiet_op; go_big_quiet_on) | ((first | refine Mix.lex_skipT rfl rfl rfl (by with_reducible rfl) ?_ | refine Mix.lex_skipF rfl rfl rfl (by with_reducible rfl) ?_ | refine Mix.lex_skipU rfl rfl rfl (by with_reducible rfl) ?_); simp only [Act.put, List.setIfInBounds_toArray, List.set_cons_succ, List.set_cons_zero]) | (refine Mix.lex_part rfl rfl rfl rfl (fun hq => ?_) (fun hq => ?_) <;> (fail_if_success (guard_hyp hq :ₛ true = true)) <;> (fail_if_success (guard_hyp hq :ₛ false = false)) <;> first | (exfalso; cases hq; done) | (exfalso; simp only [decide_eq_true_eq, decide_eq_false_iff_not, beq_iff_eq, beq_eq_false_iff_ne, ne_eq, Int.not_lt, Int.not_le] at hq; omega) | simp only [Act.put, List.setIfInBounds_toArray, List.set_cons_succ, List.set_cons_zero]))); all_goals (refine Mix.lex_nil ?_)))
            go_roundw
            case rel => exact ⟨j + 1, by omega, by go_num, L2 ++ [x], A3, c3, true, rfl, by simp, by simp; omega, by rw [HL.out, HS.out, HL2.out]; simp, Fresh.grow (h := F2.out.on (by (repeat (first | exact Only.refl _ _ | refine Only.drew ?_ | refine Only.drewN ?_ _ | refine Only.alloc ?_ _)))) (ys := [x]) rfl hown6 hg6 hb6⟩
            case measure => simp [intOf]; omega
    · have hd : xs.drop j = [] := List.drop_eq_nil_of_le (by rw [h0.1]; omega)
      cases d with
      | true =>
        have e1 : Hid (putL fk f xs = L) := by rw [Hid, HL.out, hd]; simp [putS, dropL]
        clear hd
        go_wp2_with (first | ((first | refine Mix.wpList_guarded rfl ?_ | refine Mix.wp_still (by kernel_rfl) (by kernel_rfl) ?_); (repeat' (first | (refine Mix.lex_quiet0 rfl rfl rfl ?_; intro K hK; go_big_quiet_op; go_big_quiet_on) | (refine Mix.lex_quietG rfl rfl rfl (by with_reducible rfl) rfl rfl ?_; intro K hK; go_big_quiet_op; go_big_quiet_on) | ((first | refine Mix.lex_skipT rfl rfl rfl (by with_reducible rfl) ?_ | refine Mix.lex_skipF rfl rfl rfl (by with_reducible rfl) ?_ | refine Mix.lex_skipU rfl rfl rfl (by with_reducible rfl) ?_); simp only [Act.put, List.setIfInBounds_toArray, List.set_cons_succ, List.set_cons_zero]) | (refine Mix.lex_part rfl rfl rfl rfl (fun hq => ?_) (fun hq => ?_) <;> (fail_if_success (guard_hyp hq :ₛ true = true)) <;> (fail_if_success (guard_hyp hq :ₛ false = false)) <;> first | (exfalso; cases hq; done) | (exfalso; simp only [decide_eq_true_eq, decide_eq_false_iff_not, beq_iff_eq, beq_eq_false_iff_ne, ne_eq, Int.not_lt, Int.not_le] at hq; omega) | simp only [Act.put, List.setIfInBounds_toArray, List.set_cons_succ, List.set_cons_zero]))); all_goals (refine Mix.lex_nil ?_)))
        go_ret
        rw [e1.out]
        exact ⟨A', c', rfl, F1.out.from HX0.out⟩
      | false =>
        have e1 : Hid (putL fk f xs = L ++ [f]) := by rw [Hid, HL.out, hd]; simp [putS, putL]
        clear hd
        go_wp2_with (first | (at_builtin; go_must (refine wpList_append (v := .slice A' L.length c') (n := L.length) (xs := L.flatMap fileF.enc) rfl file_ty rfl rfl rfl (own_ext F1.out.own (by (repeat (first | exact Only.refl _ _ | refine Only.drew ?_ | refine Only.drewN ?_ _ | refine Only.alloc ?_ _)))) (rd_one _ _ [S f.1, S f.2]) (fenc1 f) (by omega) ?_); intro A2 c2 w5 hown5 hg5 hb5) | ((first | refine Mix.wpList_guarded rfl ?_ | refine Mix.wp_still (by kernel_rfl) (by kernel_rfl) ?_); (repeat' (first | (refine Mix.lex_quiet0 rfl rfl rfl ?_; intro K hK; go_big_quiet_op; go_big_quiet_on) | (refine Mix.lex_quietG rfl rfl rfl (by with_reducible rfl) rfl rfl ?_; intro K hK; go_big_quiet_op; go_big_quiet_on) | ((first | refine Mix.lex_skipT rfl rfl rfl (by with_reducible rfl) ?_ | refine Mix.lex_skipF rfl rfl rfl (by with_reducible rfl) ?_ | refine Mix.lex_skipU rfl rfl rfl (by with_reducible rfl) ?_); simp only [Act.put, List.setIfInBounds_toArray, List.set_cons_succ, List.set_cons_zero]) | (refine Mix.lex_part rfl rfl rfl rfl (fun hq => ?_) (fun hq => ?_) <;> (fail_if_success (guard_hyp hq :ₛ true = true)) <;> (fail_if_success (guard_hyp hq :ₛ false = false)) <;> first | (exfalso; cases hq; done) | (exfalso; simp only [decide_eq_true_eq, decide_eq_false_iff_not, beq_iff_eq, beq_eq_false_iff_ne, ne_eq, Int.not_lt, Int.not_le] at hq; omega) | simp only [Act.put, List.setIfInBounds_toArray, List.set_cons_succ, List.set_cons_zero]))); all_goals (refine Mix.lex_nil ?_)))
        go_ret
        rw [e1.out]
        exact ⟨A2, c2, by simp, Fresh.from (Fresh.grow (h := F1.out.on (by (repeat (first | exact Only.refl _ _ | refine Only.drew ?_ | refine Only.drewN ?_ _ | refine Only.alloc ?_ _)))) (ys := [f]) rfl hown5 hg5 hb5) HX0.out⟩
end Go.Proofs.YtnhaekifcieeoaaGreatDoor

/- An error and a number: the same? -/
namespace Go.Proofs.YtnhaekifcieeoaaGreatDoor
open Go Go.RowKit
theorem same_nil (f : Int) (w : World) :
    Calls Tryz.prog 13 #[.nilIface, .int .i64 f] w fun e w' => e = .returned (.bool (decide (f = 0))) ∧ Ext w w' := by
  go_enter Tryz.func13, Tryz.ntmps13
  go_wp2_with (first | ((first | refine Mix.wpList_guarded rfl ?_ | refine Mix.wp_still (by kernel_rfl) (by kernel_rfl) ?_); (repeat' (first | (refine Mix.lex_quiet0 rfl rfl rfl ?_; intro K hK; go_big_quiet_op; go_big_quiet_on) | (refine Mix.lex_quietG rfl rfl rfl (by with_reducible rfl) rfl rfl ?_; intro K hK; go_big_quiet_op; go_big_quiet_on) | ((first | refine Mix.lex_skipT rfl rfl rfl (by with_reducible rfl) ?_ | refine Mix.lex_skipF rfl rfl rfl (by with_reducible rfl) ?_ | refine Mix.lex_skipU rfl rfl rfl (by with_reducible rfl) ?_); simp only [Act.put, List.setIfInBounds_toArray, List.set_cons_succ, List.set_cons_zero]) | (refine Mix.lex_part rfl rfl rfl rfl (fun hq => ?_) (fun hq => ?_) <;> (fail_if_success (guard_hyp hq :ₛ true = true)) <;> (fail_if_success (guard_hyp hq :ₛ false = false)) <;> first | (exfalso; cases hq; done) | (exfalso; simp only [decide_eq_true_eq, decide_eq_false_iff_not, beq_iff_eq, beq_eq_false_iff_ne, ne_eq, Int.not_lt, Int.not_le] at hq; omega) | simp only [Act.put, List.setIfInBounds_toArray, List.set_cons_succ, List.set_cons_zero]))); all_goals (refine Mix.lex_nil ?_)))
  go_ret
  exact ⟨rfl, Only.refl _ _⟩
theorem as_E (n : Int) (xT : TypeId) (w : World) : (Instr.typeAssert (E n) xT 80 true).run Tryz.prog w = .ok (.tuple #[.int .i64 n, .bool true]) w := by
  unfold Instr.typeAssert
  rw [Sem.run_bind, run_underlying Tryz.underlying80]
  simp [Result.andThen, Sem.run_pure, E]
theorem same_E (n f : Int) (w : World) :
    Calls Tryz.prog 13 #[E n, .int .i64 f] w fun e w' => e = .returned (.bool (decide (0 < f) && decide (n = f))) ∧ Ext w w' := by
  have hE := as_E n
  go_enter Tryz.func13, Tryz.ntmps13
  go_wp2_with (first | ((first | refine Mix.wpList_guarded rfl ?_ | refine Mix.wp_still (by kernel_rfl) (by kernel_rfl) ?_); (repeat' (first | (refine Mix.lex_quiet0 rfl rfl rfl ?_; intro K hK; go_big_quiet_op; go_big_quiet_on) | (refine Mix.lex_quietG rfl rfl rfl (by with_reducible rfl) rfl rfl ?_; intro K hK; go_big_quiet_op; go_big_quiet_on) | ((first | refine Mix.lex_skipT rfl rfl rfl (by with_reducible rfl) ?_ | refine Mix.lex_skipF rfl rfl rfl (by with_reducible rfl) ?_ | refine Mix.lex_skipU rfl rfl rfl (by with_reducible rfl) ?_); simp only [Act.put, List.setIfInBounds_toArray, List.set_cons_succ, List.set_cons_zero]) | (refine Mix.lex_part rfl rfl rfl rfl (fun hq => ?_) (fun hq => ?_) <;> (fail_if_success (guard_hyp hq :ₛ true = true)) <;> (fail_if_success (guard_hyp hq :ₛ false = false)) <;> first | (exfalso; cases hq; done) | (exfalso; simp only [decide_eq_true_eq, decide_eq_false_iff_not, beq_iff_eq, beq_eq_false_iff_ne, ne_eq, Int.not_lt, Int.not_le] at hq; omega) | simp only [Act.put, List.setIfInBounds_toArray, List.set_cons_succ, List.set_cons_zero]))); all_goals (refine Mix.lex_nil ?_)))
  all_goals (go_ret; refine ⟨?_, Only.refl _ _⟩)
  all_goals refine ret_bool ?_
  · rw [hq]; rfl
  · rw [hq]; simp
theorem same_c (n f : Int) (hn : 0 ≤ n) (w : World) :
    Calls Tryz.prog 13 #[errV n, .int .i64 f] w fun e w' => e = .returned (.bool (decide (n = f))) ∧ Ext w w' := by
  by_cases h : n = 0
  · subst h
    refine (same_nil f w).mono ?_
    rintro e w' ⟨rfl, hx⟩
    exact ⟨by congr 2; simp [eq_comm], hx⟩
  · rw [errV_pos h]
    refine (same_E n f w).mono ?_
    rintro e w' ⟨rfl, hx⟩
    refine ⟨?_, hx⟩
    congr 2
    by_cases hf : n = f
    · subst hf; simp; omega
    · simp [hf]
theorem same_self (f : Int) (hf : 0 ≤ f) (w : World) : Calls Tryz.prog 13 #[errV f, .int .i64 f] w fun e w' => e = .returned (.bool true) ∧ Ext w w' := by
  have := same_c f f hf w
  rwa [decide_eq_true rfl] at this
end Go.Proofs.YtnhaekifcieeoaaGreatDoor

namespace Go.Proofs.YtnhaekifcieeoaaGreatDoor
open Go Go.RowKit
theorem SameFiles_c {w : World} {A B : Option Addr} {n m c d : Nat} {xs ys : List File} (h1 : SlR fileF w A n xs) (h2 : SlR fileF w B m ys) (hn : n ≤ 10000) (hm : m ≤ 10000) :
    Calls Tryz.prog 26 #[.slice A n c, .slice B m d] w fun e w' => e = .returned (.bool (decide (xs = ys))) ∧ Ext w w' := by
  by_cases hnm : n = m
  · subst hnm
    go_enter Tryz.func26, Tryz.ntmps26
    go_wp2
    go_loopw [5] (fun i wr => ∃ k : Nat, k ≤ n ∧ i = .int .i64 k ∧ xs.take k = ys.take k ∧ ∃ ξ : X w No, wr = ξ.v) (fun i _ => n - (intOf i).toNat)
    case atStart => exact ⟨0, Nat.zero_le _, rfl, rfl, X.here _ _, rfl⟩
    case round =>
      obtain ⟨k, hk, rfl, hT, ξ, rfl⟩ := hrel
      have HT := Lib.hid hT
      clear hT
      by_cases hlt : k < n
      · obtain ⟨b, o, f, rfl, hx, c0, c1⟩ := files_get h1 hlt
        obtain ⟨b', o', f', rfl, hx', c2, c3⟩ := files_get h2 hlt
        go_upto_region 6 with fail
        (refine Mix.wp_draw [] 100 (Cl (w) (No)) (by kernel_rfl) (by kernel_rfl) (Cl.drew_ ξ) ?_; (repeat' (first | (refine Mix.lex_quiet0 rfl rfl rfl ?_; intro K hK; go_big_quiet_op; go_big_quiet_on) | (refine Mix.lex_quietG rfl rfl rfl (by with_reducible rfl) rfl rfl ?_; intro K hK; go_big_quiet_op; go_big_quiet_on) | ((first | refine Mix.lex_skipT rfl rfl rfl (by with_reducible rfl) ?_ | refine Mix.lex_skipF rfl rfl rfl (by with_reducible rfl) ?_ | refine Mix.lex_skipU rfl rfl rfl (by with_reducible rfl) ?_); simp only [Act.put, List.setIfInBounds_toArray, List.set_cons_succ, List.set_cons_zero]) | (refine Mix.lex_part rfl rfl rfl rfl (fun hq => ?_) (fun hq => ?_) <;> (fail_if_success (guard_hyp hq :ₛ true = true)) <;> (fail_if_success (guard_hyp hq :ₛ false = false)) <;> first | (exfalso; cases hq; done) | (exfalso; simp only [decide_eq_true_eq, decide_eq_false_iff_not, beq_iff_eq, beq_eq_false_iff_ne, ne_eq, Int.not_lt, Int.not_le] at hq; omega) | simp only [Act.put, List.setIfInBounds_toArray, List.set_cons_succ, List.set_cons_zero]))))
        all_goals (refine Mix.lex_nil ?_)
        cases hB : fileB f.1 f.2 f'.1 f'.2
        · go_wp2
          go_ret
          exact ⟨ret_bool (decide_eq_false (ne_at hx hx' (fileB_false hB))).symm, ξ.h.drew⟩
        · go_wp2
          go_roundw
          case rel => exact ⟨k + 1, by omega, by go_num, take_grow HT.out hx hx' (fileB_true hB), ⟨_, ξ.h.drew⟩, rfl⟩
          case measure => simp [intOf]; omega
      · go_wp2
        go_ret
        exact ⟨ret_bool (decide_eq_true (eq_of_take HT.out h1.1 h2.1 (by omega))).symm, ξ.h⟩
  · go_enter Tryz.func26, Tryz.ntmps26
    go_wp2
    · go_ret
      exact ⟨ret_bool (decide_eq_false (fun e => hnm (by rw [← h1.1, ← h2.1, e]))).symm, Only.refl _ _⟩
end Go.Proofs.YtnhaekifcieeoaaGreatDoor
