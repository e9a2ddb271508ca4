/- Put together: Fld. -/
import Derived.Test.YtnhaekifcieeoaaGreatDoorMa09
import Derived.Test.YtnhaekifcieeoaaGreatDoorMa05
import Derived.Lib.FieldsP
import Derived.Lib.DecodeN
import Derived.Lib.Replace
import Derived.Shelf.GgClosure.Gives
import Derived.Shelf.Abstract
/- Words of a text: what stands between blanks; '%' in a word. makefile.words, pattern, word. -/
namespace Go.Proofs.YtnhaekifcieeoaaGreatDoor
open Go Go.RowKit
def neB (w : Str) : Bool := !(w == [])
def fieldsF (s : Str) : List Str := (splB 32 s).filter neB
theorem splB_chunk (c : UInt8) : ∀ (a r : Str), c ∉ a → splB c (a ++ r) = headApp a (splB c r)
  | [], r, _ => by
    cases h : splB c r with
    | nil => exact absurd h (splB_ne c r)
    | cons x l => simp [headApp, h]
  | x :: a, r, h => by
    have hx : x ≠ c := fun e => h (by simp [e])
    rw [List.cons_append, splB_app, if_neg hx, splB_chunk c a r (fun hm => h (List.mem_cons_of_mem _ hm)), headApp_two]
    rfl
theorem dec_blank {n b0 b1 b2 b3 : Nat} : (Lib.decodeN n b0 b1 b2 b3).1 = 32 ↔ b0 = 32 := by
  unfold Lib.decodeN
  repeat' split
  all_goals (try dsimp only)
  all_goals omega
theorem dec_width {n b0 b1 b2 b3 : Nat} (hn : 1 ≤ n) : 1 ≤ (Lib.decodeN n b0 b1 b2 b3).2 ∧ (Lib.decodeN n b0 b1 b2 b3).2 ≤ n ∧ (2 ≤ (Lib.decodeN n b0 b1 b2 b3).2 → b1 ≠ 32) ∧ (3 ≤ (Lib.decodeN n b0 b1 b2 b3).2 → b2 ≠ 32) ∧ (4 ≤ (Lib.decodeN n b0 b1 b2 b3).2 → b3 ≠ 32) ∧ (Lib.decodeN n b0 b1 b2 b3).2 ≤ 4 ∧ (b0 = 32 → (Lib.decodeN n b0 b1 b2 b3).2 = 1) := by
  unfold Lib.decodeN
  repeat' split
  all_goals (try dsimp only)
  all_goals (refine ⟨?_, ?_, ?_, ?_, ?_, ?_, ?_⟩ <;> omega)
theorem get_at (l : Str) {i : Nat} (h : i < l.length) : (⟨l.toArray⟩ : ByteArray).get! i = l[i] := by
  show l.toArray[i]! = l[i]
  simp [h]
theorem blank_step (l : Str) {pos : Nat} (h : pos < l.length) : ∃ r w, Utf8.decode ⟨l.toArray⟩ pos = (r, w) ∧ 1 ≤ w ∧ pos + w ≤ l.length ∧
    ((r = 32 ∧ w = 1 ∧ l.drop pos = 32 :: l.drop (pos + 1)) ∨ (r ≠ 32 ∧ (32 : UInt8) ∉ (l.drop pos).take w ∧ l.drop pos = (l.drop pos).take w ++ l.drop (pos + w))) := by
  have hsz : (⟨l.toArray⟩ : ByteArray).size = l.length := by simp [ByteArray.size]
  have hd := Lib.decode_at ⟨l.toArray⟩ pos
  rw [hsz] at hd
  obtain ⟨w1, w2, w3, w4, w5, w6, w7⟩ := dec_width (n := l.length - pos) (b0 := ((⟨l.toArray⟩ : ByteArray).get! pos).toNat) (b1 := ((⟨l.toArray⟩ : ByteArray).get! (pos + 1)).toNat) (b2 := ((⟨l.toArray⟩ : ByteArray).get! (pos + 2)).toNat) (b3 := ((⟨l.toArray⟩ : ByteArray).get! (pos + 3)).toNat) (by omega)
  have hb := @dec_blank (l.length - pos) ((⟨l.toArray⟩ : ByteArray).get! pos).toNat ((⟨l.toArray⟩ : ByteArray).get! (pos + 1)).toNat ((⟨l.toArray⟩ : ByteArray).get! (pos + 2)).toNat ((⟨l.toArray⟩ : ByteArray).get! (pos + 3)).toNat
  rw [← hd] at w1 w2 w3 w4 w5 w6 w7 hb
  clear hd
  generalize Utf8.decode ⟨l.toArray⟩ pos = q at *
  obtain ⟨r, w⟩ := q
  dsimp only at *
  refine ⟨r, w, rfl, w1, by omega, ?_⟩
  have g0 := get_at l h
  by_cases hr : r = 32
  · left
    have h32 := hb.1 hr
    have hw := w7 h32
    have e : l[pos] = 32 := by
      rw [g0] at h32
      apply UInt8.toNat_inj.1
      exact h32
    exact ⟨hr, hw, by rw [List.drop_eq_getElem_cons h, e]⟩
  · right
    refine ⟨hr, fun hm => ?_, ?_⟩
    · obtain ⟨j, hj, hj2⟩ := List.getElem_of_mem hm
      rw [List.getElem_take, List.getElem_drop] at hj2
      rw [List.length_take, List.length_drop] at hj
      have hjl : pos + j < l.length := by omega
      have e32 : ((⟨l.toArray⟩ : ByteArray).get! (pos + j)).toNat = 32 := by rw [get_at l hjl, hj2]; rfl
      clear hj2 hjl
      match j, hj, e32 with
      | 0, _, e32 => exact hr (hb.2 e32)
      | 1, hj, e32 => exact w3 (by omega) e32
      | 2, hj, e32 => exact w4 (by omega) e32
      | 3, hj, e32 => exact w5 (by omega) e32
      | j + 4, hj, _ => omega
    · conv => lhs; rw [← List.take_append_drop w (l.drop pos)]
      rw [List.drop_drop]
def pieceOf (l : Str) (x : Nat × Nat) : Str := Lib.pieceU l x.1 x.2
theorem extract_piece (l : Str) (a b : Nat) : ((⟨l.toArray⟩ : ByteArray).extract a b) = ⟨(Lib.pieceU l a b).toArray⟩ := by
  rw [S_extract]
  congr 2
  unfold Lib.pieceU
  rw [List.drop_take]
theorem headApp_cons (p : Str) (L : List Str) : headApp p ([] :: L) = p :: L := by simp [headApp]
theorem sp_succ (p : Nat → Bool) (s : ByteArray) (f pos : Nat) (st : Option Nat) (acc : List (Nat × Nat)) : Lib.spansFromP p s (f + 1) pos st acc =
    if pos < s.size then
      (if p (Utf8.decode s pos).1 then
        (match st with
         | some a => Lib.spansFromP p s f (pos + (Utf8.decode s pos).2) none (acc ++ [(a, pos)])
         | none => Lib.spansFromP p s f (pos + (Utf8.decode s pos).2) none acc)
       else
        (match st with
         | some a => Lib.spansFromP p s f (pos + (Utf8.decode s pos).2) (some a) acc
         | none => Lib.spansFromP p s f (pos + (Utf8.decode s pos).2) (some pos) acc))
    else (acc, st) := rfl
theorem spans_fields (l : Str) : ∀ (f pos : Nat) (st : Option Nat) (acc : List (Nat × Nat)), l.length - pos ≤ f → pos ≤ l.length → (∀ a, st = some a → a < pos) →
    (Lib.closeSpans ⟨l.toArray⟩ (Lib.spansFromP (fun r => r == 32) ⟨l.toArray⟩ f pos st acc)).map (pieceOf l) = acc.map (pieceOf l) ++ (headApp (Lib.openPiece l st pos) (splB 32 (l.drop pos))).filter neB
  | f, pos, st, acc, hf, hp, ha => by
    have hsz : (⟨l.toArray⟩ : ByteArray).size = l.length := by simp [ByteArray.size]
    by_cases hlt : pos < l.length
    · obtain ⟨f, rfl⟩ : ∃ g, f = g + 1 := ⟨f - 1, by omega⟩
      obtain ⟨r, w, hd, hw, hwl, hc⟩ := blank_step l hlt
      rw [sp_succ, if_pos (by rw [hsz]; exact hlt), hd]
      dsimp only
      rcases hc with ⟨rfl, rfl, e⟩ | ⟨hr, hn, e⟩
      · rw [if_pos (show ((32 : Nat) == 32) = true from rfl), e, splB_app, if_pos rfl]
        cases st with
        | none =>
          dsimp only
          rw [spans_fields l f (pos + 1) none acc (by omega) (by omega) (fun a h => by cases h)]
          simp only [Lib.openPiece, headApp_nil (splB_ne 32 _)]
          rfl
        | some a =>
          dsimp only
          rw [spans_fields l f (pos + 1) none (acc ++ [(a, pos)]) (by omega) (by omega) (fun a h => by cases h)]
          have hne : neB (Lib.pieceU l a pos) = true := by
            have := Lib.pieceU_ne l a pos (ha a rfl) hp
            simpa [neB] using this
          simp only [Lib.openPiece, headApp_nil (splB_ne 32 _), headApp_cons, List.filter_cons, hne, if_true, List.map_append, List.map_cons, List.map_nil, List.append_assoc, List.singleton_append]
          rfl
      · rw [if_neg (by simpa using hr), e, splB_chunk 32 _ _ hn, headApp_two]
        cases st with
        | none =>
          dsimp only
          rw [spans_fields l f (pos + w) (some pos) acc (by omega) hwl (fun a h => by injection h; omega)]
          have e2 : Lib.openPiece l (some pos) (pos + w) = (l.drop pos).take w := by
            show Lib.pieceU l pos (pos + w) = _
            unfold Lib.pieceU
            rw [Nat.add_sub_cancel_left]
          rw [e2]
          simp only [Lib.openPiece, List.nil_append]
        | some a =>
          dsimp only
          rw [spans_fields l f (pos + w) (some a) acc (by omega) hwl (fun b h => by injection h with h; have := ha a rfl; omega)]
          have e2 : Lib.openPiece l (some a) (pos + w) = Lib.openPiece l (some a) pos ++ (l.drop pos).take w := (Lib.pieceU_grow l a pos w (by have := ha a rfl; omega)).symm
          rw [e2]
    · rw [Lib.spansFromP_end _ _ _ _ _ _ (by rw [hsz]; exact hlt)]
      have hd : l.drop pos = [] := List.drop_of_length_le (by omega)
      rw [hd]
      unfold Lib.closeSpans
      cases st with
      | none => simp [Lib.openPiece, splB, headApp, neB]
      | some a =>
        have hpl : pos = l.length := by omega
        have hne : neB (Lib.pieceU l a pos) = true := by
          have := Lib.pieceU_ne l a pos (ha a rfl) hp
          simpa [neB] using this
        simp only [Lib.openPiece, splB, headApp, List.append_nil, List.filter_cons, hne, if_true, List.filter_nil, List.map_append, List.map_cons, List.map_nil, hsz]
        rw [← hpl]
        rfl
termination_by f pos => (l.length - pos, f)
decreasing_by all_goals (simp_wf; omega)
theorem goFields_blank (l : Str) : Lib.goFieldsP (fun r => r == 32) ⟨l.toArray⟩ = (fieldsF l).map fun w => (⟨w.toArray⟩ : ByteArray) := by
  have hsz : (⟨l.toArray⟩ : ByteArray).size = l.length := by simp [ByteArray.size]
  unfold Lib.goFieldsP Lib.spansOfP
  have h := spans_fields l l.length 0 none [] (by omega) (Nat.zero_le _) (fun a h => by cases h)
  rw [List.map_nil, List.nil_append] at h
  simp only [Lib.openPiece, headApp_nil (splB_ne 32 _), List.drop_zero] at h
  have e : fieldsF l = (splB 32 l).filter neB := rfl
  rw [e, ← h, hsz, List.map_map]
  apply List.map_congr_left
  intro x _
  exact extract_piece l x.1 x.2
open Go.Lib in
theorem blank_pred (w : World) : PredAt Tryz.prog 130 #[] encR (fun r => r == 32) w := fun W r _ => by
  have e : ((r : Int) == 32) = (r == 32) := by
    rw [Bool.eq_iff_iff, beq_iff_eq, beq_iff_eq]
    omega
  unfold FnGives
  go_enter Tryz.func130, Tryz.ntmps130
  go_wp2
  go_ret
  exact ⟨by rw [← e]; rfl, 0, rfl⟩
theorem words_c (s : Str) (hs : s.length ≤ 100000) (w : World) :
    Calls Tryz.prog 100 #[S s] w fun e w' => ∃ A' c', e = .returned (.slice A' (fieldsF s).length c') ∧ Fresh strF 9 w w' A' c' (fieldsF s) := by
  have hsz : (⟨s.toArray⟩ : ByteArray).size = s.length := by simp [ByteArray.size]
  have HC := Lib.hid (Tryz.strings_FieldsFunc 130 #[] (enters_of Tryz.func130 (by kernel_rfl) rfl) _ ⟨s.toArray⟩ w (by rw [hsz]; omega) (blank_pred w))
  go_enter Tryz.func100, Tryz.ntmps100
  go_wp2_with (first | ((first | refine Mix.wpList_guarded rfl ?_ | refine Mix.wp_still (by kernel_rfl) (by kernel_rfl) ?_); (repeat' (first | (refine Mix.lex_quiet0 rfl rfl rfl ?_; intro K hK; go_big_quiet_op; go_big_quiet_on) | (refine Mix.lex_quietG rfl rfl rfl (by with_reducible rfl) rfl rfl ?_; intro K hK; go_big_quiet_op; go_big_quiet_on) | ((first | refine Mix.lex_skipT rfl rfl rfl (by with_reducible rfl) ?_ | refine Mix.lex_skipF rfl rfl rfl (by with_reducible rfl) ?_ | refine Mix.lex_skipU rfl rfl rfl (by with_reducible rfl) ?_); simp only [Act.put, List.setIfInBounds_toArray, List.set_cons_succ, List.set_cons_zero]) | (refine Mix.lex_part rfl rfl rfl rfl (fun hq => ?_) (fun hq => ?_) <;> (fail_if_success (guard_hyp hq :ₛ true = true)) <;> (fail_if_success (guard_hyp hq :ₛ false = false)) <;> first | (exfalso; cases hq; done) | (exfalso; simp only [decide_eq_true_eq, decide_eq_false_iff_not, beq_iff_eq, beq_eq_false_iff_ne, ne_eq, Int.not_lt, Int.not_le] at hq; omega) | simp only [Act.put, List.setIfInBounds_toArray, List.set_cons_succ, List.set_cons_zero]))); all_goals (refine Mix.lex_nil ?_)))
  refine HC.out.mono ?_
  rintro e u ⟨A, rfl, hA, ho, hb⟩
  clear HC
  rw [goFields_blank] at ho ⊢
  rw [List.length_map] at ho ⊢
  rw [List.map_map, show (Value.string ∘ fun w : Str => (⟨w.toArray⟩ : ByteArray)) = (fun w => Value.string ⟨w.toArray⟩) from rfl, map_S] at ho
  have HF : Hid (Fresh strF 9 w u (some ⟨A, 0, none⟩) (fieldsF s).length (fieldsF s)) := by
    refine ⟨?_, Only.below hb, fun g hg => by simp [Value.ownBlock] at hg; omega⟩
    rcases ho with ⟨h1, h2⟩
    refine ⟨h1, ?_⟩
    rcases h2 with h2 | ⟨g, cap, cur, e, _, h3⟩
    · exact .inl h2
    · exact .inr ⟨g, cap, cur, e, Nat.zero_le _, h3⟩
  clear ho hb
  go_wp2_with (first | ((first | refine Mix.wpList_guarded rfl ?_ | refine Mix.wp_still (by kernel_rfl) (by kernel_rfl) ?_); (repeat' (first | (refine Mix.lex_quiet0 rfl rfl rfl ?_; intro K hK; go_big_quiet_op; go_big_quiet_on) | (refine Mix.lex_quietG rfl rfl rfl (by with_reducible rfl) rfl rfl ?_; intro K hK; go_big_quiet_op; go_big_quiet_on) | ((first | refine Mix.lex_skipT rfl rfl rfl (by with_reducible rfl) ?_ | refine Mix.lex_skipF rfl rfl rfl (by with_reducible rfl) ?_ | refine Mix.lex_skipU rfl rfl rfl (by with_reducible rfl) ?_); simp only [Act.put, List.setIfInBounds_toArray, List.set_cons_succ, List.set_cons_zero]) | (refine Mix.lex_part rfl rfl rfl rfl (fun hq => ?_) (fun hq => ?_) <;> (fail_if_success (guard_hyp hq :ₛ true = true)) <;> (fail_if_success (guard_hyp hq :ₛ false = false)) <;> first | (exfalso; cases hq; done) | (exfalso; simp only [decide_eq_true_eq, decide_eq_false_iff_not, beq_iff_eq, beq_eq_false_iff_ne, ne_eq, Int.not_lt, Int.not_le] at hq; omega) | simp only [Act.put, List.setIfInBounds_toArray, List.set_cons_succ, List.set_cons_zero]))); all_goals (refine Mix.lex_nil ?_)))
  go_ret
  exact ⟨_, _, rfl, HF.out⟩
def patB (s : Str) : Bool := (cutB 37 s).2.2
theorem indexByte_cut (c : UInt8) : ∀ s : Str, decide (0 ≤ Lib.indexByte s c) = (cutB c s).2.2
  | [] => rfl
  | x :: s => by
    have ih := indexByte_cut c s
    have hg := Lib.indexByte_ge s c
    rw [cutB_cons, Lib.indexByte]
    by_cases h : x = c
    · simp [h]
    · rw [if_neg h, if_neg (by simpa using h), ← ih]
      by_cases h1 : Lib.indexByte s c = -1
      · simp [h1]
      · rw [if_neg (by simpa using h1)]
        have : 0 ≤ Lib.indexByte s c := by omega
        rw [decide_eq_true this, decide_eq_true (by omega)]
def onceF (s t : Str) : Str := if (cutB 37 s).2.2 = true then (cutB 37 s).1 ++ t ++ (cutB 37 s).2.1 else s
theorem onceF_len (s t : Str) : (onceF s t).length ≤ s.length + t.length := by
  have := cutB_len 37 s
  unfold onceF
  split
  · simp only [List.length_append]; omega
  · omega
theorem parts_take {s a b : Str} {c : UInt8} (h : s = a ++ c :: b) : s.take a.length = a ∧ s.drop (a.length + 1) = b := by
  subst h
  refine ⟨List.take_left, ?_⟩
  rw [← List.drop_drop, List.drop_left]
  rfl
theorem replace_once (s t : Str) (h : ([37] == t) = false) : Lib.replace s [37] t 1 = onceF s t := by
  have hi := index_cut 37 s
  unfold Lib.replace onceF
  rw [if_neg (by rw [h]; exact Bool.false_ne_true)]
  by_cases hb : (cutB 37 s).2.2 = true
  · rw [if_pos hb] at hi ⊢
    have hp := cut_parts 37 s hb
    have hc : Lib.count s [37] = 1 + Lib.count (s.drop ((cutB 37 s).1.length + 1)) [37] := Lib.count_hit (by simp) hi
    have hn : Lib.replaceNum s [37] 1 = 1 := by
      unfold Lib.replaceNum
      rw [if_neg (by omega)]
      rfl
    rw [hn, Lib.replaceK_hit _ _ 0 s _ hi, Lib.replaceK]
    obtain ⟨e1, e2⟩ := parts_take hp
    rw [List.length_singleton, e1, e2]
  · rw [if_neg hb] at hi ⊢
    have hn : Lib.replaceNum s [37] 1 = 0 := by
      unfold Lib.replaceNum
      rw [Lib.count_miss hi]
      rfl
    rw [hn, Lib.replaceK]
def wordB (s : Str) : Bool := nameB (onceF s [97])
theorem pattern_c (s : Str) (w : World) : Calls Tryz.prog 102 #[S s] w fun e w' => e = .returned (.bool (patB s)) ∧ Ext w w' := by
  have HC := Lib.hid (Tryz.strings_Contains_one ⟨s.toArray⟩ 37 w)
  go_enter Tryz.func102, Tryz.ntmps102
  go_wp2_with (first | ((first | refine Mix.wpList_guarded rfl ?_ | refine Mix.wp_still (by kernel_rfl) (by kernel_rfl) ?_); (repeat' (first | (refine Mix.lex_quiet0 rfl rfl rfl ?_; intro K hK; go_big_quiet_op; go_big_quiet_on) | (refine Mix.lex_quietG rfl rfl rfl (by with_reducible rfl) rfl rfl ?_; intro K hK; go_big_quiet_op; go_big_quiet_on) | ((first | refine Mix.lex_skipT rfl rfl rfl (by with_reducible rfl) ?_ | refine Mix.lex_skipF rfl rfl rfl (by with_reducible rfl) ?_ | refine Mix.lex_skipU rfl rfl rfl (by with_reducible rfl) ?_); simp only [Act.put, List.setIfInBounds_toArray, List.set_cons_succ, List.set_cons_zero]) | (refine Mix.lex_part rfl rfl rfl rfl (fun hq => ?_) (fun hq => ?_) <;> (fail_if_success (guard_hyp hq :ₛ true = true)) <;> (fail_if_success (guard_hyp hq :ₛ false = false)) <;> first | (exfalso; cases hq; done) | (exfalso; simp only [decide_eq_true_eq, decide_eq_false_iff_not, beq_iff_eq, beq_eq_false_iff_ne, ne_eq, Int.not_lt, Int.not_le] at hq; omega) | simp only [Act.put, List.setIfInBounds_toArray, List.set_cons_succ, List.set_cons_zero]))); all_goals (refine Mix.lex_nil ?_)))
  refine HC.out.mono ?_
  rintro e u ⟨rfl, rfl⟩
  clear HC
  go_wp2_with (first | ((first | refine Mix.wpList_guarded rfl ?_ | refine Mix.wp_still (by kernel_rfl) (by kernel_rfl) ?_); (repeat' (first | (refine Mix.lex_quiet0 rfl rfl rfl ?_; intro K hK; go_big_quiet_op; go_big_quiet_on) | (refine Mix.lex_quietG rfl rfl rfl (by with_reducible rfl) rfl rfl ?_; intro K hK; go_big_quiet_op; go_big_quiet_on) | ((first | refine Mix.lex_skipT rfl rfl rfl (by with_reducible rfl) ?_ | refine Mix.lex_skipF rfl rfl rfl (by with_reducible rfl) ?_ | refine Mix.lex_skipU rfl rfl rfl (by with_reducible rfl) ?_); simp only [Act.put, List.setIfInBounds_toArray, List.set_cons_succ, List.set_cons_zero]) | (refine Mix.lex_part rfl rfl rfl rfl (fun hq => ?_) (fun hq => ?_) <;> (fail_if_success (guard_hyp hq :ₛ true = true)) <;> (fail_if_success (guard_hyp hq :ₛ false = false)) <;> first | (exfalso; cases hq; done) | (exfalso; simp only [decide_eq_true_eq, decide_eq_false_iff_not, beq_iff_eq, beq_eq_false_iff_ne, ne_eq, Int.not_lt, Int.not_le] at hq; omega) | simp only [Act.put, List.setIfInBounds_toArray, List.set_cons_succ, List.set_cons_zero]))); all_goals (refine Mix.lex_nil ?_)))
  go_ret
  exact ⟨by rw [patB, ← indexByte_cut]; rfl, Only.refl _ _⟩
theorem word_c (s : Str) (hs : s.length ≤ 5000) {w : World} (hm : Ml w) : Calls Tryz.prog 103 #[S s] w fun e w' => e = .returned (.bool (wordB s)) ∧ Ext w w' := by
  obtain ⟨m, hm⟩ := hm
  have hsz : (⟨s.toArray⟩ : ByteArray).size = s.length := by simp [ByteArray.size]
  have hcnt : Lib.countB ⟨s.toArray⟩ ⟨#[37]⟩ ≤ s.length := by
    have h1 : Lib.countB ⟨s.toArray⟩ ⟨#[37]⟩ = Lib.count s [37] := rfl
    have h2 := (splitK_byte 37 _ s (Nat.le_refl _)).2
    have h3 := splB_le 37 s
    omega
  have HC : Hid (Calls Tryz.prog 117 #[S s, S [37], S [97], .int .i64 1] w fun e w' => e = .returned (S (onceF s [97])) ∧ Ext w w') := by
    refine (Tryz.strings_Replace ⟨s.toArray⟩ ⟨#[37]⟩ ⟨#[97]⟩ 1 m w (by rw [hsz]; omega) hm (by show 1 ≤ 1; omega) (by rw [hsz]; show s.length + _ * 1 ≤ _; omega)).mono ?_
    rintro e w' ⟨rfl, hb⟩
    refine ⟨?_, Only.below hb⟩
    have := replace_once s [97] rfl
    rw [← this]
  have hl := onceF_len s [97]
  rw [List.length_singleton] at hl
  have HN := Lib.hid (fun w => Name_c (onceF s [97]) w (by omega))
  unfold wordB
  generalize onceF s [97] = t at HC HN ⊢
  generalize nameB t = b at HN ⊢
  clear hm hcnt
  go_enter Tryz.func103, Tryz.ntmps103
  go_wp2_with (first | ((first | refine Mix.wpList_guarded rfl ?_ | refine Mix.wp_still (by kernel_rfl) (by kernel_rfl) ?_); (repeat' (first | (refine Mix.lex_quiet0 rfl rfl rfl ?_; intro K hK; go_big_quiet_op; go_big_quiet_on) | (refine Mix.lex_quietG rfl rfl rfl (by with_reducible rfl) rfl rfl ?_; intro K hK; go_big_quiet_op; go_big_quiet_on) | ((first | refine Mix.lex_skipT rfl rfl rfl (by with_reducible rfl) ?_ | refine Mix.lex_skipF rfl rfl rfl (by with_reducible rfl) ?_ | refine Mix.lex_skipU rfl rfl rfl (by with_reducible rfl) ?_); simp only [Act.put, List.setIfInBounds_toArray, List.set_cons_succ, List.set_cons_zero]) | (refine Mix.lex_part rfl rfl rfl rfl (fun hq => ?_) (fun hq => ?_) <;> (fail_if_success (guard_hyp hq :ₛ true = true)) <;> (fail_if_success (guard_hyp hq :ₛ false = false)) <;> first | (exfalso; cases hq; done) | (exfalso; simp only [decide_eq_true_eq, decide_eq_false_iff_not, beq_iff_eq, beq_eq_false_iff_ne, ne_eq, Int.not_lt, Int.not_le] at hq; omega) | simp only [Act.put, List.setIfInBounds_toArray, List.set_cons_succ, List.set_cons_zero]))); all_goals (refine Mix.lex_nil ?_)))
  refine (HC.out).mono ?_; rintro e uu ⟨rfl, hu⟩; obtain ⟨ξ1, hnew⟩ : ∃ ξ : X w No, ξ.v = uu := ⟨⟨uu, (X.here w No).h.then_ext hu⟩, rfl⟩; subst hnew; have Hξ1 := Lib.hid hu; clear hu
  go_wp2_with (first | ((first | refine Mix.wpList_guarded rfl ?_ | refine Mix.wp_still (by kernel_rfl) (by kernel_rfl) ?_); (repeat' (first | (refine Mix.lex_quiet0 rfl rfl rfl ?_; intro K hK; go_big_quiet_op; go_big_quiet_on) | (refine Mix.lex_quietG rfl rfl rfl (by with_reducible rfl) rfl rfl ?_; intro K hK; go_big_quiet_op; go_big_quiet_on) | ((first | refine Mix.lex_skipT rfl rfl rfl (by with_reducible rfl) ?_ | refine Mix.lex_skipF rfl rfl rfl (by with_reducible rfl) ?_ | refine Mix.lex_skipU rfl rfl rfl (by with_reducible rfl) ?_); simp only [Act.put, List.setIfInBounds_toArray, List.set_cons_succ, List.set_cons_zero]) | (refine Mix.lex_part rfl rfl rfl rfl (fun hq => ?_) (fun hq => ?_) <;> (fail_if_success (guard_hyp hq :ₛ true = true)) <;> (fail_if_success (guard_hyp hq :ₛ false = false)) <;> first | (exfalso; cases hq; done) | (exfalso; simp only [decide_eq_true_eq, decide_eq_false_iff_not, beq_iff_eq, beq_eq_false_iff_ne, ne_eq, Int.not_lt, Int.not_le] at hq; omega) | simp only [Act.put, List.setIfInBounds_toArray, List.set_cons_succ, List.set_cons_zero]))); all_goals (refine Mix.lex_nil ?_)))
  refine (HN.out _).mono ?_; rintro e uu ⟨rfl, hu⟩; obtain ⟨ξ2, hnew⟩ : ∃ ξ : X w No, ξ.v = uu := ⟨⟨uu, ξ1.h.then_ext hu⟩, rfl⟩; subst hnew; have Hξ2 := Lib.hid hu; clear hu
  go_wp2_with (first | ((first | refine Mix.wpList_guarded rfl ?_ | refine Mix.wp_still (by kernel_rfl) (by kernel_rfl) ?_); (repeat' (first | (refine Mix.lex_quiet0 rfl rfl rfl ?_; intro K hK; go_big_quiet_op; go_big_quiet_on) | (refine Mix.lex_quietG rfl rfl rfl (by with_reducible rfl) rfl rfl ?_; intro K hK; go_big_quiet_op; go_big_quiet_on) | ((first | refine Mix.lex_skipT rfl rfl rfl (by with_reducible rfl) ?_ | refine Mix.lex_skipF rfl rfl rfl (by with_reducible rfl) ?_ | refine Mix.lex_skipU rfl rfl rfl (by with_reducible rfl) ?_); simp only [Act.put, List.setIfInBounds_toArray, List.set_cons_succ, List.set_cons_zero]) | (refine Mix.lex_part rfl rfl rfl rfl (fun hq => ?_) (fun hq => ?_) <;> (fail_if_success (guard_hyp hq :ₛ true = true)) <;> (fail_if_success (guard_hyp hq :ₛ false = false)) <;> first | (exfalso; cases hq; done) | (exfalso; simp only [decide_eq_true_eq, decide_eq_false_iff_not, beq_iff_eq, beq_eq_false_iff_ne, ne_eq, Int.not_lt, Int.not_le] at hq; omega) | simp only [Act.put, List.setIfInBounds_toArray, List.set_cons_succ, List.set_cons_zero]))); all_goals (refine Mix.lex_nil ?_)))
  go_ret
  exact ⟨rfl, ξ2.h⟩
end Go.Proofs.YtnhaekifcieeoaaGreatDoor
