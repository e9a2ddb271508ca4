/- Put together: St2, St3. -/
import Derived.Test.YtaphmmobmadfoaaMc21
import Derived.Test.YtaphmmobmadfoaaMc22
import Derived.Test.YtaphmmobmadfoaaMc25
/- The store's text of all rows, and back. -/
namespace Go.Proofs.Ytaphmmobmadfoaa
open Go Go.RowKit
theorem IsB.ext {B b : Nat} {bs : List Value} {W W' : World} (h : Lib.IsBuilderF bldT byT B b bs W) (hx : Ext W W') : Lib.IsBuilderF bldT byT B b bs W' := by
  have key : ∀ p, Lib.BuilderAtF bldT byT B b p bs W → Lib.BuilderAtF bldT byT B b p bs W' := fun p h => by
    have hlt := h.lt
    obtain ⟨hB, v, hb, hown, hne⟩ := h
    exact ⟨hB, v, (hx.block b hlt id).trans hb, hown.kept (row := none) ⟨hx.os, hx.tape, hx.output, hx.size, fun k hk _ => hx.block k hk id⟩ (Classical.em _), hne⟩
  exact h.elim (fun h => .inl (key _ h)) (fun h => .inr (key _ h))
def rowT (c : Ch) : Str := bt ((c.1.length : Int) % 256) :: bt ((c.2.1.length : Int) % 256) :: bt ((c.2.1.length : Int) / 256 % 256) :: (c.1 ++ c.2.1)
def allT (rows : List Ch) : Str := rows.flatMap rowT
theorem rowT_len (c : Ch) : (rowT c).length = c.1.length + c.2.1.length + 3 := by simp [rowT]
theorem allT_snoc {rows : List Ch} {j : Nat} {x : Ch} (h : rows[j]? = some x) : allT (rows.take (j + 1)) = allT (rows.take j) ++ rowT x := by
  unfold allT
  rw [List.take_add_one, h, List.flatMap_append]
  simp
@[go_sem] theorem str_new3 (a b c : Int) (w : World) : (convert 93 9 (.slice (some ⟨w.heap.size, 0, none⟩) 3 3)).run Try.prog (w.alloc (.cells #[.int .u8 a, .int .u8 b, .int .u8 c] 5)) = .ok (S [bt a, bt b, bt c]) (w.alloc (.cells #[.int .u8 a, .int .u8 b, .int .u8 c] 5)) := by
  rw [run_convert_bytes_arg _ 93 5 Try.underlying93 Try.underlying5 w.heap.size 0 3 3 [a, b, c] rfl (fun i hi => ?_) 9 Try.underlying9]
  · rfl
  · rw [(Cs.new w 5 #[.int .u8 a, .int .u8 b, .int .u8 c]).cell]
    match i, hi with
    | 0, _ => rfl
    | 1, _ => rfl
    | 2, _ => rfl
set_option maxRecDepth 100000 in
set_option maxHeartbeats 1000000 in
theorem All_c {w : World} {A : Option Addr} {n c : Nat} {rows : List Ch} (h : SlR chF w A n rows) (hn : n ≤ 1000) (hb : ∀ x ∈ rows, x.1.length ≤ 1000 ∧ x.2.1.length ≤ 1000) :
    Calls Try.prog 44 #[.slice A n c] w fun e w' => e = .returned (S (allT rows)) ∧ Ext w w' := by
  have HS := Lib.hid h
  have HB := Lib.hid hb
  have hnl := h.1
  have hlen : ∀ j, (allT (rows.take j)).length ≤ 2003 * j := by
    intro j
    induction j with
    | zero => simp [allT]
    | succ j ih =>
      by_cases hj : j < rows.length
      · have hx : rows[j]? = some rows[j] := List.getElem?_eq_getElem hj
        rw [allT_snoc hx, List.length_append, rowT_len]
        have := HB.out _ (List.getElem_mem hj)
        omega
      · rw [List.take_of_length_le (by omega)] at ih ⊢
        omega
  have HL := Lib.hid hlen
  clear h hb hlen
  go_enter Try.func44, Try.ntmps44
  obtain ⟨g1, hg1⟩ : ∃ x, x = w.heap.size := ⟨_, rfl⟩
  obtain ⟨w1, hw1⟩ : ∃ v, v = w.alloc (.cells #[.pointer none, .slice none 0 0] bldT) := ⟨_, rfl⟩
  have x1 : Ext w w1 := by rw [hw1]; exact (Only.refl No w).alloc _
  have B1 : Hid (Lib.IsBuilderF bldT byT g1 g1 [] w1) := by rw [hw1, hg1]; exact Lib.IsBuilderF.of (Lib.fresh_isBuilder bldT byT w)
  have X1 := Lib.hid x1
  clear x1
  go_upto_region 2 with fail
  rw [← hw1, ← hg1]
  have HG := Lib.hid hg1
  clear hw1 hg1
  go_wp2_with (first | ((first | refine Mix.wpList_guarded rfl ?_ | refine Mix.wp_still (by kernel_rfl) (by kernel_rfl) ?_); (repeat' (first | (refine Mix.lex_quiet0 rfl rfl rfl ?_; intro K hK; go_big_quiet_op; go_big_quiet_on) | (refine Mix.lex_quietG rfl rfl rfl (by with_reducible rfl) rfl rfl ?_; intro K hK; go_big_quiet_op; go_big_quiet_on) | ((first | refine Mix.lex_skipT rfl rfl rfl (by with_reducible rfl) ?_ | refine Mix.lex_skipF rfl rfl rfl (by with_reducible rfl) ?_ | refine Mix.lex_skipU rfl rfl rfl (by with_reducible rfl) ?_); simp only [Act.put, List.setIfInBounds_toArray, List.set_cons_succ, List.set_cons_zero]) | (refine Mix.lex_part rfl rfl rfl rfl (fun hq => ?_) (fun hq => ?_) <;> (fail_if_success (guard_hyp hq :ₛ true = true)) <;> (fail_if_success (guard_hyp hq :ₛ false = false)) <;> first | (exfalso; cases hq; done) | (exfalso; simp only [decide_eq_true_eq, decide_eq_false_iff_not, beq_iff_eq, beq_eq_false_iff_ne, ne_eq, Int.not_lt, Int.not_le] at hq; omega) | simp only [Act.put, List.setIfInBounds_toArray, List.set_cons_succ, List.set_cons_zero]))); all_goals (refine Mix.lex_nil ?_)))
  go_loopw [8] (fun i wr => ∃ j : Nat, j ≤ n ∧ i = .int .i64 j ∧ Lib.IsBuilderF bldT byT g1 g1 (Lib.byteCells (allT (rows.take j))) wr ∧ Ext w wr) (fun i _ => n - (intOf i).toNat)
  case atStart => exact ⟨0, Nat.zero_le _, rfl, B1.out, X1.out⟩
  case round =>
    obtain ⟨j, hj, rfl, hBj, hXj⟩ := hrel
    have BJ := Lib.hid hBj
    have XJ := Lib.hid hXj
    clear hBj hXj
    by_cases hlt : j < n
    · have glt : decide ((j : Int) < (n : Int)) = true := decide_eq_true (by omega)
      obtain ⟨b, o, x, hAe, hyx, q0, q1, q2⟩ := chs_get HS.out hlt
      subst hAe
      obtain ⟨key, val, gone⟩ := x
      have hx := HB.out _ (List.mem_of_getElem? hyx)
      have r0 := q0 ⟨wr, XJ.out⟩
      have r1 := q1 ⟨wr, XJ.out⟩
      have r2 := q2 ⟨wr, XJ.out⟩
      dsimp only at r0 r1 r2 hx
      clear q0 q1 q2
      obtain ⟨g2, hg2⟩ : ∃ x, x = wr.heap.size := ⟨_, rfl⟩
      obtain ⟨w2, hw2⟩ : ∃ v, v = wr.alloc (.cells #[S key, S val, .bool gone] 61) := ⟨_, rfl⟩
      have x2 : Ext wr w2 := by rw [hw2]; exact (Only.refl No wr).alloc _
      have hC2 : Cs w2 g2 61 #[S key, S val, .bool gone] := by rw [hw2, hg2]; exact Cs.new _ _ _
      have s0 : w2.cell? ⟨g2, 0, none⟩ = some (S key) := hC2.cell 0
      have s1 : w2.cell? ⟨g2, 1, none⟩ = some (S val) := hC2.cell 1
      go_upto_region 5 with fail
      rw [← hw2, ← hg2]
      clear hw2 hg2
      have s0' : ∀ o, (w2.alloc o).cell? ⟨g2, 0, none⟩ = some (S key) := fun o => (hC2.alloc o).cell 0
      have s1' : ∀ o, (w2.alloc o).cell? ⟨g2, 1, none⟩ = some (S val) := fun o => (hC2.alloc o).cell 1
      have hrow : Hid (rowT (key, val, gone) = bt ((key.length : Int) % 256) :: bt ((val.length : Int) % 256) :: bt ((val.length : Int) / 256) :: (key ++ val)) := by
        rw [Hid]
        unfold rowT
        dsimp only
        rw [show ((val.length : Int) / 256 % 256) = (val.length : Int) / 256 by omega]
      have hsn := Lib.hid (allT_snoc hyx)
      go_wp2_with (first | ((first | refine Mix.wpList_guarded rfl ?_ | refine Mix.wp_still (by kernel_rfl) (by kernel_rfl) ?_); (repeat' (first | (refine Mix.lex_quiet0 rfl rfl rfl ?_; intro K hK; go_big_quiet_op; go_big_quiet_on) | (refine Mix.lex_quietG rfl rfl rfl (by with_reducible rfl) rfl rfl ?_; intro K hK; go_big_quiet_op; go_big_quiet_on) | ((first | refine Mix.lex_skipT rfl rfl rfl (by with_reducible rfl) ?_ | refine Mix.lex_skipF rfl rfl rfl (by with_reducible rfl) ?_ | refine Mix.lex_skipU rfl rfl rfl (by with_reducible rfl) ?_); simp only [Act.put, List.setIfInBounds_toArray, List.set_cons_succ, List.set_cons_zero]) | (refine Mix.lex_part rfl rfl rfl rfl (fun hq => ?_) (fun hq => ?_) <;> (fail_if_success (guard_hyp hq :ₛ true = true)) <;> (fail_if_success (guard_hyp hq :ₛ false = false)) <;> first | (exfalso; cases hq; done) | (exfalso; simp only [decide_eq_true_eq, decide_eq_false_iff_not, beq_iff_eq, beq_eq_false_iff_ne, ne_eq, Int.not_lt, Int.not_le] at hq; omega) | simp only [Act.put, List.setIfInBounds_toArray, List.set_cons_succ, List.set_cons_zero]))); all_goals (refine Mix.lex_nil ?_)))
      obtain ⟨w3, hw3⟩ : ∃ v, v = w2.alloc (.cells #[.int .u8 ((key.length : Int) % 256), .int .u8 ((val.length : Int) % 256), .int .u8 ((val.length : Int) / 256)] 5) := ⟨_, rfl⟩
      have x3 : Ext wr w3 := by rw [hw3]; exact x2.alloc _
      rw [← hw3]
      clear hw3 s0 s1 s0' s1' hC2
      refine (WriteStr_k g1 g1 _ _ w3 (IsB.ext BJ.out x3) ?_ (by have := XJ.out.size; have := x3.size; have := HG.out; omega)).mono ?_
      · have := HL.out j
        simp [Lib.byteCells, ByteArray.size] at this ⊢
        omega
      rintro e w4 ⟨rfl, hB4, hb4⟩
      have X4 : Hid (Ext w w4) := Only.below ((XJ.out.then_ext x3).toBelow.trans (by rw [← HG.out]; exact hb4))
      go_wp2_with (first | ((first | refine Mix.wpList_guarded rfl ?_ | refine Mix.wp_still (by kernel_rfl) (by kernel_rfl) ?_); (repeat' (first | (refine Mix.lex_quiet0 rfl rfl rfl ?_; intro K hK; go_big_quiet_op; go_big_quiet_on) | (refine Mix.lex_quietG rfl rfl rfl (by with_reducible rfl) rfl rfl ?_; intro K hK; go_big_quiet_op; go_big_quiet_on) | ((first | refine Mix.lex_skipT rfl rfl rfl (by with_reducible rfl) ?_ | refine Mix.lex_skipF rfl rfl rfl (by with_reducible rfl) ?_ | refine Mix.lex_skipU rfl rfl rfl (by with_reducible rfl) ?_); simp only [Act.put, List.setIfInBounds_toArray, List.set_cons_succ, List.set_cons_zero]) | (refine Mix.lex_part rfl rfl rfl rfl (fun hq => ?_) (fun hq => ?_) <;> (fail_if_success (guard_hyp hq :ₛ true = true)) <;> (fail_if_success (guard_hyp hq :ₛ false = false)) <;> first | (exfalso; cases hq; done) | (exfalso; simp only [decide_eq_true_eq, decide_eq_false_iff_not, beq_iff_eq, beq_eq_false_iff_ne, ne_eq, Int.not_lt, Int.not_le] at hq; omega) | simp only [Act.put, List.setIfInBounds_toArray, List.set_cons_succ, List.set_cons_zero]))); all_goals (refine Mix.lex_nil ?_)))
      go_roundw
      case rel => exact ⟨j + 1, by omega, by go_num, by rw [hsn.out, hrow.out]; unfold Lib.byteCells Lib.strCells at *; rw [List.map_append]; exact hB4, X4.out⟩
      case measure => simp [intOf]; omega
    · obtain rfl : j = n := by omega
      have glt : decide ((j : Int) < (j : Int)) = false := decide_eq_false (by omega)
      have hS := Try.Builder_String_any_k g1 g1 (allT (rows.take j)) wr BJ.out (by rw [HG.out]; exact XJ.out.size)
      go_wp2_with (first | ((first | refine Mix.wpList_guarded rfl ?_ | refine Mix.wp_still (by kernel_rfl) (by kernel_rfl) ?_); (repeat' (first | (refine Mix.lex_quiet0 rfl rfl rfl ?_; intro K hK; go_big_quiet_op; go_big_quiet_on) | (refine Mix.lex_quietG rfl rfl rfl (by with_reducible rfl) rfl rfl ?_; intro K hK; go_big_quiet_op; go_big_quiet_on) | ((first | refine Mix.lex_skipT rfl rfl rfl (by with_reducible rfl) ?_ | refine Mix.lex_skipF rfl rfl rfl (by with_reducible rfl) ?_ | refine Mix.lex_skipU rfl rfl rfl (by with_reducible rfl) ?_); simp only [Act.put, List.setIfInBounds_toArray, List.set_cons_succ, List.set_cons_zero]) | (refine Mix.lex_part rfl rfl rfl rfl (fun hq => ?_) (fun hq => ?_) <;> (fail_if_success (guard_hyp hq :ₛ true = true)) <;> (fail_if_success (guard_hyp hq :ₛ false = false)) <;> first | (exfalso; cases hq; done) | (exfalso; simp only [decide_eq_true_eq, decide_eq_false_iff_not, beq_iff_eq, beq_eq_false_iff_ne, ne_eq, Int.not_lt, Int.not_le] at hq; omega) | simp only [Act.put, List.setIfInBounds_toArray, List.set_cons_succ, List.set_cons_zero]))); all_goals (refine Mix.lex_nil ?_)))
      refine hS.mono ?_
      rintro e w9 ⟨rfl, -, hbl, -⟩
      go_wp2_with (first | ((first | refine Mix.wpList_guarded rfl ?_ | refine Mix.wp_still (by kernel_rfl) (by kernel_rfl) ?_); (repeat' (first | (refine Mix.lex_quiet0 rfl rfl rfl ?_; intro K hK; go_big_quiet_op; go_big_quiet_on) | (refine Mix.lex_quietG rfl rfl rfl (by with_reducible rfl) rfl rfl ?_; intro K hK; go_big_quiet_op; go_big_quiet_on) | ((first | refine Mix.lex_skipT rfl rfl rfl (by with_reducible rfl) ?_ | refine Mix.lex_skipF rfl rfl rfl (by with_reducible rfl) ?_ | refine Mix.lex_skipU rfl rfl rfl (by with_reducible rfl) ?_); simp only [Act.put, List.setIfInBounds_toArray, List.set_cons_succ, List.set_cons_zero]) | (refine Mix.lex_part rfl rfl rfl rfl (fun hq => ?_) (fun hq => ?_) <;> (fail_if_success (guard_hyp hq :ₛ true = true)) <;> (fail_if_success (guard_hyp hq :ₛ false = false)) <;> first | (exfalso; cases hq; done) | (exfalso; simp only [decide_eq_true_eq, decide_eq_false_iff_not, beq_iff_eq, beq_eq_false_iff_ne, ne_eq, Int.not_lt, Int.not_le] at hq; omega) | simp only [Act.put, List.setIfInBounds_toArray, List.set_cons_succ, List.set_cons_zero]))); all_goals (refine Mix.lex_nil ?_)))
      go_ret
      rw [List.take_of_length_le (by omega)]
      exact ⟨rfl, Only.below (XJ.out.toBelow.trans (by rw [← HG.out]; exact hbl))⟩
end Go.Proofs.Ytaphmmobmadfoaa

/- parse: the text of all rows is read back. -/
namespace Go.Proofs.Ytaphmmobmadfoaa
open Go Go.RowKit
/-- Rows as a store holds them. -/
structure GoodR (rows : List Ch) : Prop where
  rise : Rise ck rows
  ok : ∀ x ∈ rows, chBad x = 0
  here : ∀ x ∈ rows, x.2.2 = false
theorem allT_cons (x : Ch) (r : List Ch) : allT (x :: r) = rowT x ++ allT r := rfl
theorem allT_drop {rows : List Ch} {j : Nat} {x : Ch} (h : rows[j]? = some x) : allT (rows.drop j) = rowT x ++ allT (rows.drop (j + 1)) := by
  rw [drop_at h, allT_cons]
theorem rowT_at {x : Ch} (h : chBad x = 0) (r : Str) : ∃ (a b c : UInt8), rowT x ++ r = a :: b :: c :: (x.1 ++ (x.2.1 ++ r)) ∧ a.toNat = x.1.length ∧ b.toNat + 256 * c.toNat = x.2.1.length := by
  have h1 := chBad_key h
  have h2 := chBad_val h
  refine ⟨bt ((x.1.length : Int) % 256), bt ((x.2.1.length : Int) % 256), bt ((x.2.1.length : Int) / 256 % 256), by simp only [rowT, List.cons_append, List.append_assoc], ?_, ?_⟩
  · rw [show ((x.1.length : Int) % 256) = ((x.1.length % 256 : Nat) : Int) by omega, bt_nat' _ (by omega)]; omega
  · rw [show ((x.2.1.length : Int) % 256) = ((x.2.1.length % 256 : Nat) : Int) by omega, show ((x.2.1.length : Int) / 256 % 256) = ((x.2.1.length / 256 % 256 : Nat) : Int) by omega, bt_nat' _ (by omega), bt_nat' _ (by omega)]; omega
theorem putL_last {x : Ch} : ∀ {L : List Ch}, (∀ y ∈ L, ck y < ck x) → putL ck x L = L ++ [x]
  | [], _ => rfl
  | y :: L, h => by
    have h1 : leB (ck x) (ck y) = false := by
      have := h y (by simp)
      unfold leB
      exact decide_eq_false (by exact Std.not_le.2 this)
    show (if leB (ck x) (ck y) then _ else y :: putL ck x L) = _
    rw [h1, if_neg Bool.false_ne_true, putL_last fun z hz => h z (by simp [hz])]
    rfl
theorem apply_snoc {rows : List Ch} (h : GoodR rows) {j : Nat} {x : Ch} (hx : rows[j]? = some x) : applyL (rows.take j) [x] = rows.take (j + 1) := by
  have h2 : rows.take (j + 1) = rows.take j ++ [x] := by rw [List.take_add_one, hx]; rfl
  have hg := h.here x (List.mem_of_getElem? hx)
  show apply1 (rows.take j) x = _
  unfold apply1
  rw [hg, if_neg Bool.false_ne_true, h2]
  refine putL_last fun y hy => ?_
  have hr : Rise ck (rows.take j ++ [x]) := by rw [← h2]; exact h.rise.sublist (List.take_sublist _ _)
  exact (List.pairwise_append.1 hr).2.2 y hy x (by simp)
def strN : Value → Nat
  | .string b => b.size
  | _ => 0
set_option maxRecDepth 100000 in
set_option maxHeartbeats 2000000 in
theorem SParse_c {w : World} (hm : Ml w) {rows : List Ch} (h : GoodR rows) (hn : rows.length ≤ 1000) :
    Calls Try.prog 33 #[S (allT rows)] w fun e w' => ∃ A c, e = .returned (.tuple #[.slice A rows.length c, .bool true]) ∧ Fresh chF 61 w w' A c rows := by
  have HG := Lib.hid h
  have HM := Lib.hid hm
  clear h hm
  go_enter Try.func33, Try.ntmps33
  go_wp2_with (first | ((first | refine Mix.wpList_guarded rfl ?_ | refine Mix.wp_still (by kernel_rfl) (by kernel_rfl) ?_); (repeat' (first | (refine Mix.lex_quiet0 rfl rfl rfl ?_; intro K hK; go_big_quiet_op; go_big_quiet_on) | (refine Mix.lex_quietG rfl rfl rfl (by with_reducible rfl) rfl rfl ?_; intro K hK; go_big_quiet_op; go_big_quiet_on) | ((first | refine Mix.lex_skipT rfl rfl rfl (by with_reducible rfl) ?_ | refine Mix.lex_skipF rfl rfl rfl (by with_reducible rfl) ?_ | refine Mix.lex_skipU rfl rfl rfl (by with_reducible rfl) ?_); simp only [Act.put, List.setIfInBounds_toArray, List.set_cons_succ, List.set_cons_zero]) | (refine Mix.lex_part rfl rfl rfl rfl (fun hq => ?_) (fun hq => ?_) <;> (fail_if_success (guard_hyp hq :ₛ true = true)) <;> (fail_if_success (guard_hyp hq :ₛ false = false)) <;> first | (exfalso; cases hq; done) | (exfalso; simp only [decide_eq_true_eq, decide_eq_false_iff_not, beq_iff_eq, beq_eq_false_iff_ne, ne_eq, Int.not_lt, Int.not_le] at hq; omega) | simp only [Act.put, List.setIfInBounds_toArray, List.set_cons_succ, List.set_cons_zero]))); all_goals (refine Mix.lex_nil ?_)))
  go_loopw [0, 4] (fun t l wr => ∃ j : Nat, j ≤ rows.length ∧ t = S (allT (rows.drop j)) ∧ ∃ A c, l = .slice A j c ∧ Fresh chF 61 w wr A c (rows.take j)) (fun t _ _ => strN t)
  case atStart => exact ⟨0, Nat.zero_le _, rfl, none, 0, rfl, Fresh.nil _ _ _ _ (Only.refl _ _)⟩
  case round =>
    obtain ⟨j, hj, rfl, A1, c1, rfl, hF⟩ := hrel
    have FF := Lib.hid hF
    clear hF
    by_cases hlt : j < rows.length
    · have hx : rows[j]? = some rows[j] := List.getElem?_eq_getElem hlt
      obtain ⟨x, hxe⟩ : ∃ x, x = rows[j] := ⟨_, rfl⟩
      rw [← hxe] at hx
      have hbad := HG.out.ok x (List.mem_of_getElem? hx)
      have hgone := HG.out.here x (List.mem_of_getElem? hx)
      obtain ⟨key, val, gone⟩ := x
      dsimp only at hgone
      subst hgone
      have k1 : key.length ≤ 10 := chBad_key hbad
      have k2 : val.length ≤ 300 := chBad_val hbad
      have HT := Lib.hid (allT_drop hx)
      obtain ⟨r, hr⟩ : ∃ r, r = allT (rows.drop (j + 1)) := ⟨_, rfl⟩
      rw [← hr] at HT
      obtain ⟨a, b, c, hrow, ha, hb⟩ := rowT_at hbad r
      have HT2 := Lib.hid (HT.out.trans hrow)
      obtain ⟨t, ht⟩ : ∃ t, t = allT (rows.drop j) := ⟨_, rfl⟩
      rw [← ht] at HT2 ⊢
      have hlen : t.length = 3 + key.length + val.length + r.length := by rw [HT2.out]; simp; omega
      have t0 : t[0]'(by omega) = a := by simp [HT2.out]
      have t1 : t[1]'(by omega) = b := by simp [HT2.out]
      have t2 : t[2]'(by omega) = c := by simp [HT2.out]
      have hne : (t == ([] : Str)) = false := by rw [beq_eq_false_iff_ne]; intro e; rw [e] at hlen; simp at hlen; omega
      have HLn := Lib.hid hlen
      have HRr := Lib.hid hr
      dsimp only at ha hb HT2
      have p0 : 0 < t.length := by omega
      have p1 : 1 < t.length := by omega
      have p2 : 2 < t.length := by omega
      have ua : (t[0].toNat : Int) = (key.length : Int) := by rw [t0]; omega
      have ub : (t[1].toNat : Int) + 256 * (t[2].toNat : Int) = (val.length : Int) := by rw [t1, t2]; omega
      have g3 : decide ((t.length : Int) < 3) = false := decide_eq_false (by omega)
      have g4 : decide ((t.length : Int) < (3 : Int) + (t[0].toNat : Int) + (t[1].toNat : Int) + (256 : Int) * (t[2].toNat : Int)) = false := decide_eq_false (by omega)
      have b0 : (t[0].toNat : Int) ≤ 255 := by have := t[0].toNat_lt; omega
      have b1 : (t[1].toNat : Int) ≤ 255 := by have := t[1].toNat_lt; omega
      have b2 : (t[2].toNat : Int) ≤ 255 := by have := t[2].toNat_lt; omega
      have i1 : (1 : Int) < (t.length : Int) := by omega
      have i2 : (2 : Int) < (t.length : Int) := by omega
      have UA := Lib.hid ua
      have UB := Lib.hid ub
      clear HT hrow ht hr hlen t0 t1 t2 ua ub ha hb
      go_upto_region 3 with fail
      (refine Mix.wp_draw [] 100 (Cl (wr) (No)) (by kernel_rfl) (by kernel_rfl) (Cl.drew_ (X.here wr No)) ?_; (repeat' (first | (refine Mix.lex_quiet0 rfl rfl rfl ?_; intro K hK; go_big_quiet_op; go_big_quiet_on) | (refine Mix.lex_quietG rfl rfl rfl (by with_reducible rfl) rfl rfl ?_; intro K hK; go_big_quiet_op; go_big_quiet_on) | ((first | refine Mix.lex_skipT rfl rfl rfl (by with_reducible rfl) ?_ | refine Mix.lex_skipF rfl rfl rfl (by with_reducible rfl) ?_ | refine Mix.lex_skipU rfl rfl rfl (by with_reducible rfl) ?_); simp only [Act.put, List.setIfInBounds_toArray, List.set_cons_succ, List.set_cons_zero]) | (refine Mix.lex_part rfl rfl rfl rfl (fun hq => ?_) (fun hq => ?_) <;> (fail_if_success (guard_hyp hq :ₛ true = true)) <;> (fail_if_success (guard_hyp hq :ₛ false = false)) <;> first | (exfalso; cases hq; done) | (exfalso; simp only [decide_eq_true_eq, decide_eq_false_iff_not, beq_iff_eq, beq_eq_false_iff_ne, ne_eq, Int.not_lt, Int.not_le] at hq; omega) | simp only [Act.put, List.setIfInBounds_toArray, List.set_cons_succ, List.set_cons_zero]))))
      all_goals (refine Mix.lex_nil ?_)
      obtain ⟨v1, hv1⟩ : ∃ v, v = wr.drew := ⟨_, rfl⟩
      have X1 : Hid (Ext wr v1) := by rw [Hid, hv1]; exact (Only.refl No wr).drew
      rw [← hv1]
      clear hv1
      go_upto_region 6 with fail
      rw [UA.out]
      (refine Mix.wp_draw [] 100 (Cl (v1) (No)) (by kernel_rfl) (by kernel_rfl) (Cl.drew_ (X.here v1 No)) ?_; (repeat' (first | (refine Mix.lex_quiet0 rfl rfl rfl ?_; intro K hK; go_big_quiet_op; go_big_quiet_on) | (refine Mix.lex_quietG rfl rfl rfl (by with_reducible rfl) rfl rfl ?_; intro K hK; go_big_quiet_op; go_big_quiet_on) | ((first | refine Mix.lex_skipT rfl rfl rfl (by with_reducible rfl) ?_ | refine Mix.lex_skipF rfl rfl rfl (by with_reducible rfl) ?_ | refine Mix.lex_skipU rfl rfl rfl (by with_reducible rfl) ?_); simp only [Act.put, List.setIfInBounds_toArray, List.set_cons_succ, List.set_cons_zero]) | (refine Mix.lex_part rfl rfl rfl rfl (fun hq => ?_) (fun hq => ?_) <;> (fail_if_success (guard_hyp hq :ₛ true = true)) <;> (fail_if_success (guard_hyp hq :ₛ false = false)) <;> first | (exfalso; cases hq; done) | (exfalso; simp only [decide_eq_true_eq, decide_eq_false_iff_not, beq_iff_eq, beq_eq_false_iff_ne, ne_eq, Int.not_lt, Int.not_le] at hq; omega) | simp only [Act.put, List.setIfInBounds_toArray, List.set_cons_succ, List.set_cons_zero]))))
      all_goals (refine Mix.lex_nil ?_)
      rw [show ((3 : Int) + (key.length : Int) + (t[1].toNat : Int) + (256 : Int) * (t[2].toNat : Int)) = (3 : Int) + (key.length : Int) + (val.length : Int) by have := UB.out; omega]
      obtain ⟨v2, hv2⟩ : ∃ v, v = v1.drew := ⟨_, rfl⟩
      have X2 : Hid (Ext wr v2) := by rw [Hid, hv2]; exact X1.out.drew
      rw [← hv2]
      clear hv2
      have hs1 : List.drop 3 (List.take (3 + key.length) t) = key := by rw [HT2.out, Nat.add_comm]; simp
      have hs2 : List.drop (3 + key.length) (List.take (3 + key.length + val.length) t) = val := by
        rw [HT2.out, show 3 + key.length + val.length = (key.length + val.length) + 3 by omega, show 3 + key.length = key.length + 3 by omega]
        have e : List.take (key.length + val.length) (key ++ (val ++ r)) = key ++ val := by rw [← List.append_assoc]; exact List.take_left' (by simp)
        simp [e]
      have hs3 : List.drop (3 + key.length + val.length) t = r := by
        rw [HT2.out, show 3 + key.length + val.length = (key.length + val.length) + 3 by omega]; simp
      have hl1 : 3 + key.length + val.length ≤ t.length := by have := HLn.out; omega
      go_upto_region 7 with fail
      refine Mix.wp_draw [8, 9] 9 (Cl v2 No) (by kernel_rfl) (by kernel_rfl) (Cl.drew_ (X.here v2 No)) ?_
      (repeat' (first | (refine Mix.lex_quiet0 rfl rfl rfl ?_; intro K hK; go_big_quiet_op; go_big_quiet_on) | (refine Mix.lex_quietG rfl rfl rfl (by with_reducible rfl) rfl rfl ?_; intro K hK; go_big_quiet_op; go_big_quiet_on) | ((first | refine Mix.lex_skipT rfl rfl rfl (by with_reducible rfl) ?_ | refine Mix.lex_skipF rfl rfl rfl (by with_reducible rfl) ?_ | refine Mix.lex_skipU rfl rfl rfl (by with_reducible rfl) ?_); simp only [Act.put, List.setIfInBounds_toArray, List.set_cons_succ, List.set_cons_zero]) | (refine Mix.lex_part rfl rfl rfl rfl (fun hq => ?_) (fun hq => ?_) <;> (fail_if_success (guard_hyp hq :ₛ true = true)) <;> (fail_if_success (guard_hyp hq :ₛ false = false)) <;> first | (exfalso; cases hq; done) | (exfalso; simp only [decide_eq_true_eq, decide_eq_false_iff_not, beq_iff_eq, beq_eq_false_iff_ne, ne_eq, Int.not_lt, Int.not_le] at hq; omega) | simp only [Act.put, List.setIfInBounds_toArray, List.set_cons_succ, List.set_cons_zero])))
      ((first | refine Mix.lex_goes0 rfl rfl ?_ | refine Mix.lex_goesG rfl rfl rfl (by with_reducible rfl) rfl ?_); intro K hK; go_simp)
      refine hK _ _ (fun _ => Cl.of ((Only.refl No v2).drew.alloc _)) ?_
      clear hK K
      simp only [Act.put, List.setIfInBounds_toArray, List.set_cons_succ, List.set_cons_zero]
      ((first | refine Mix.lex_goes0 rfl rfl ?_ | refine Mix.lex_goesG rfl rfl rfl (by with_reducible rfl) rfl ?_); intro K hK; go_simp)
      refine hK _ _ (fun hne => absurd rfl hne) ?_
      clear hK K
      simp only [Act.put, List.setIfInBounds_toArray, List.set_cons_succ, List.set_cons_zero]
      refine Mix.lex_nil ?_
      obtain ⟨g3, hg3⟩ : ∃ x, x = v2.heap.size := ⟨_, rfl⟩
      obtain ⟨v3, hv3⟩ : ∃ v, v = (v2.alloc (.cells #[S key, S val, .bool false] 61)).drew := ⟨_, rfl⟩
      have HC3 : Hid (Cs v3 g3 61 #[S key, S val, .bool false]) := by rw [hv3, hg3]; exact Cs.new _ _ _
      have X3 : Hid (Ext wr v3) := by rw [hv3]; exact (X2.out.alloc _).drew
      rw [← hv3, ← hg3]
      clear hv3 hg3
      have d0 : v3.cell? ⟨g3, 0, none⟩ = some (S key) := HC3.out.cell 0
      have d1 : v3.cell? ⟨g3, 1, none⟩ = some (S val) := HC3.out.cell 1
      have d2 : v3.cell? ⟨g3, 2, none⟩ = some (.bool false) := HC3.out.cell 2
      have HK := Lib.hid (Check_row (key, val, false) (by show key.length ≤ 10000; omega) (by show val.length ≤ 1000000; omega) (HM.out.ext (FF.out.ext.then_ext X3.out)))
      rw [hbad, errV_zero] at HK
      go_upto_region 8 with fail
      go_wp2_with (first | ((first | refine Mix.wpList_guarded rfl ?_ | refine Mix.wp_still (by kernel_rfl) (by kernel_rfl) ?_); (repeat' (first | (refine Mix.lex_quiet0 rfl rfl rfl ?_; intro K hK; go_big_quiet_op; go_big_quiet_on) | (refine Mix.lex_quietG rfl rfl rfl (by with_reducible rfl) rfl rfl ?_; intro K hK; go_big_quiet_op; go_big_quiet_on) | ((first | refine Mix.lex_skipT rfl rfl rfl (by with_reducible rfl) ?_ | refine Mix.lex_skipF rfl rfl rfl (by with_reducible rfl) ?_ | refine Mix.lex_skipU rfl rfl rfl (by with_reducible rfl) ?_); simp only [Act.put, List.setIfInBounds_toArray, List.set_cons_succ, List.set_cons_zero]) | (refine Mix.lex_part rfl rfl rfl rfl (fun hq => ?_) (fun hq => ?_) <;> (fail_if_success (guard_hyp hq :ₛ true = true)) <;> (fail_if_success (guard_hyp hq :ₛ false = false)) <;> first | (exfalso; cases hq; done) | (exfalso; simp only [decide_eq_true_eq, decide_eq_false_iff_not, beq_iff_eq, beq_eq_false_iff_ne, ne_eq, Int.not_lt, Int.not_le] at hq; omega) | simp only [Act.put, List.setIfInBounds_toArray, List.set_cons_succ, List.set_cons_zero]))); all_goals (refine Mix.lex_nil ?_)))
      refine HK.out.mono ?_
      rintro e v4 ⟨rfl, hu⟩
      have X4 : Hid (Ext wr v4) := X3.out.then_ext hu
      have HC4 := Lib.hid (HC3.out.keep hu id)
      clear hu HC3 X3 X2 X1 HK d0 d1 d2
      have d0 : v4.cell? ⟨g3, 0, none⟩ = some (S key) := HC4.out.cell 0
      have d1 : v4.cell? ⟨g3, 1, none⟩ = some (S val) := HC4.out.cell 1
      have d2 : v4.cell? ⟨g3, 2, none⟩ = some (.bool false) := HC4.out.cell 2
      go_wp2_with (first | ((first | refine Mix.wpList_guarded rfl ?_ | refine Mix.wp_still (by kernel_rfl) (by kernel_rfl) ?_); (repeat' (first | (refine Mix.lex_quiet0 rfl rfl rfl ?_; intro K hK; go_big_quiet_op; go_big_quiet_on) | (refine Mix.lex_quietG rfl rfl rfl (by with_reducible rfl) rfl rfl ?_; intro K hK; go_big_quiet_op; go_big_quiet_on) | ((first | refine Mix.lex_skipT rfl rfl rfl (by with_reducible rfl) ?_ | refine Mix.lex_skipF rfl rfl rfl (by with_reducible rfl) ?_ | refine Mix.lex_skipU rfl rfl rfl (by with_reducible rfl) ?_); simp only [Act.put, List.setIfInBounds_toArray, List.set_cons_succ, List.set_cons_zero]) | (refine Mix.lex_part rfl rfl rfl rfl (fun hq => ?_) (fun hq => ?_) <;> (fail_if_success (guard_hyp hq :ₛ true = true)) <;> (fail_if_success (guard_hyp hq :ₛ false = false)) <;> first | (exfalso; cases hq; done) | (exfalso; simp only [decide_eq_true_eq, decide_eq_false_iff_not, beq_iff_eq, beq_eq_false_iff_ne, ne_eq, Int.not_lt, Int.not_le] at hq; omega) | simp only [Act.put, List.setIfInBounds_toArray, List.set_cons_succ, List.set_cons_zero]))); all_goals (refine Mix.lex_nil ?_)))
      obtain ⟨g5, hg5⟩ : ∃ x, x = v4.heap.size := ⟨_, rfl⟩
      obtain ⟨v5, hv5⟩ : ∃ v, v = v4.alloc (.cells #[S key, S val, .bool false] 61) := ⟨_, rfl⟩
      have HC5 : Hid (Cs v5 g5 61 #[S key, S val, .bool false]) := by rw [hv5, hg5]; exact Cs.new _ _ _
      have X5 : Hid (Ext wr v5) := by rw [hv5]; exact X4.out.alloc _
      rw [← hv5, ← hg5]
      clear hv5 hg5
      have hj2 : (rows.take j).length = j := by rw [List.length_take]; omega
      have hA := Apply_c (w := v5) (A := A1) (B := some ⟨g5, 0, none⟩) (n := j) (m := 1) (c := c1) (d := 1) (xs := rows.take j) (ys := [(key, val, false)]) (by
          have h := (FF.out.on X5.out).row (by decide)
          rw [hj2] at h
          exact h) (sl_cs (T := chF) (x := (key, val, false)) HC5.out rfl) (by omega) (by omega) (HG.out.rise.sublist (List.take_sublist _ _))
      rw [apply_snoc HG.out hx] at hA
      refine hA.mono ?_
      rintro e v6 ⟨A6, c6, rfl, hF6⟩
      have F6 := Lib.hid (hF6.from (FF.out.ext.then_ext X5.out))
      have hj3 : (rows.take (j + 1)).length = j + 1 := by rw [List.length_take]; omega
      rw [hj3]
      clear hF6 hA
      go_wp2_with (first | ((first | refine Mix.wpList_guarded rfl ?_ | refine Mix.wp_still (by kernel_rfl) (by kernel_rfl) ?_); (repeat' (first | (refine Mix.lex_quiet0 rfl rfl rfl ?_; intro K hK; go_big_quiet_op; go_big_quiet_on) | (refine Mix.lex_quietG rfl rfl rfl (by with_reducible rfl) rfl rfl ?_; intro K hK; go_big_quiet_op; go_big_quiet_on) | ((first | refine Mix.lex_skipT rfl rfl rfl (by with_reducible rfl) ?_ | refine Mix.lex_skipF rfl rfl rfl (by with_reducible rfl) ?_ | refine Mix.lex_skipU rfl rfl rfl (by with_reducible rfl) ?_); simp only [Act.put, List.setIfInBounds_toArray, List.set_cons_succ, List.set_cons_zero]) | (refine Mix.lex_part rfl rfl rfl rfl (fun hq => ?_) (fun hq => ?_) <;> (fail_if_success (guard_hyp hq :ₛ true = true)) <;> (fail_if_success (guard_hyp hq :ₛ false = false)) <;> first | (exfalso; cases hq; done) | (exfalso; simp only [decide_eq_true_eq, decide_eq_false_iff_not, beq_iff_eq, beq_eq_false_iff_ne, ne_eq, Int.not_lt, Int.not_le] at hq; omega) | simp only [Act.put, List.setIfInBounds_toArray, List.set_cons_succ, List.set_cons_zero]))); all_goals (refine Mix.lex_nil ?_)))
      rw [hs3, HRr.out]
      go_roundw
      case rel => exact ⟨j + 1, by omega, rfl, A6, c6, rfl, F6.out⟩
      case measure => have := HLn.out; simp [strN, ByteArray.size, ← HRr.out]; omega
    · obtain rfl : j = rows.length := by omega
      have ht : allT (rows.drop rows.length) = [] := by rw [List.drop_length]; rfl
      rw [ht]
      have hF : Hid (Fresh chF 61 w wr A1 c1 rows) := by have h := FF.out; rw [List.take_of_length_le (Nat.le_refl _)] at h; exact h
      clear FF
      go_wp2_with (first | ((first | refine Mix.wpList_guarded rfl ?_ | refine Mix.wp_still (by kernel_rfl) (by kernel_rfl) ?_); (repeat' (first | (refine Mix.lex_quiet0 rfl rfl rfl ?_; intro K hK; go_big_quiet_op; go_big_quiet_on) | (refine Mix.lex_quietG rfl rfl rfl (by with_reducible rfl) rfl rfl ?_; intro K hK; go_big_quiet_op; go_big_quiet_on) | ((first | refine Mix.lex_skipT rfl rfl rfl (by with_reducible rfl) ?_ | refine Mix.lex_skipF rfl rfl rfl (by with_reducible rfl) ?_ | refine Mix.lex_skipU rfl rfl rfl (by with_reducible rfl) ?_); simp only [Act.put, List.setIfInBounds_toArray, List.set_cons_succ, List.set_cons_zero]) | (refine Mix.lex_part rfl rfl rfl rfl (fun hq => ?_) (fun hq => ?_) <;> (fail_if_success (guard_hyp hq :ₛ true = true)) <;> (fail_if_success (guard_hyp hq :ₛ false = false)) <;> first | (exfalso; cases hq; done) | (exfalso; simp only [decide_eq_true_eq, decide_eq_false_iff_not, beq_iff_eq, beq_eq_false_iff_ne, ne_eq, Int.not_lt, Int.not_le] at hq; omega) | simp only [Act.put, List.setIfInBounds_toArray, List.set_cons_succ, List.set_cons_zero]))); all_goals (refine Mix.lex_nil ?_)))
      go_ret2
      exact ⟨A1, c1, rfl, hF.out⟩
end Go.Proofs.Ytaphmmobmadfoaa
