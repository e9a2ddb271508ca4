/- Put together: Split, Types, Name. -/
import Derived.Test.YtnhaekifcieeoaaGreatDoorMa06
import Derived.Test.YtnhaekifcieeoaaGreatDoorMa01
import Derived.Test.YtnhaekifcieeoaaGreatDoorMa08
import Derived.Test.YtnhaekifcieeoaaGreatDoorMa04
import Derived.Test.YtnhaekifcieeoaaGreatDoorProg
import Derived.Test.YtnhaekifcieeoaaGreatDoorMa03
/- strings.Split, strings.SplitN at a byte; the document's split. -/
namespace Go.Proofs.YtnhaekifcieeoaaGreatDoor
open Go Go.RowKit
def headApp (p : Str) : List Str → List Str
  | h :: t => (p ++ h) :: t
  | [] => [p]
theorem splB_app (c x : UInt8) (s : Str) : splB c (x :: s) = if x = c then [] :: splB c s else headApp [x] (splB c s) := by
  rw [splB_cons]
  split
  · rfl
  · cases splB c s <;> rfl
theorem headApp_two (p q : Str) (l : List Str) : headApp p (headApp q l) = headApp (p ++ q) l := by
  cases l <;> simp [headApp]
theorem headApp_nil {l : List Str} (h : l ≠ []) : headApp [] l = l := by
  cases l with
  | nil => exact absurd rfl h
  | cons a l => rfl
theorem take_drop_snoc {s : Str} {f i : Nat} (hf : f ≤ i) (hi : i < s.length) : (s.take (i + 1)).drop f = (s.take i).drop f ++ [s[i]] := by
  rw [List.take_add_one, List.getElem?_eq_getElem hi, List.drop_append_of_le_length (by simp; omega)]
  rfl
theorem drop_cons {s : Str} {i : Nat} (hi : i < s.length) : s.drop i = s[i] :: s.drop (i + 1) := List.drop_eq_getElem_cons hi
theorem senc1 (x : Str) : ∀ u ∈ [S x], u.oneCell' = true := fun u hu => str_enc1 [x] u (by simpa [strF] using hu)
theorem splB_le (c : UInt8) : ∀ s : Str, (splB c s).length ≤ s.length + 1
  | [] => by simp [splB]
  | x :: s => by
    have := splB_le c s
    rw [splB_app]
    split
    · simp; omega
    · cases h : splB c s with
      | nil => simp [headApp]
      | cons a l => rw [h] at this; simp [headApp] at this ⊢; omega
set_option maxRecDepth 100000 in
set_option maxHeartbeats 1000000 in
theorem RSplit_c (s : Str) (hs : s.length ≤ 100000) (k : Int) (c : UInt8) (hk : k = c.toNat) (w : World) :
    Calls Tryz.prog 33 #[S s, .int .u8 k] w fun e w' => ∃ A' c', e = .returned (.slice A' (splB c s).length c') ∧ Fresh strF 9 w w' A' c' (splB c s) := by
  subst hk
  go_enter Tryz.func33, Tryz.ntmps33
  go_wp2_with (first | ((first | refine Mix.wpList_guarded rfl ?_ | refine Mix.wp_still (by kernel_rfl) (by kernel_rfl) ?_); (repeat' (first | (refine Mix.lex_quiet0 rfl rfl rfl ?_; intro K hK; go_big_quiet_op; go_big_quiet_on) | (refine Mix.lex_quietG rfl rfl rfl (by with_reducible rfl) rfl rfl ?_; intro K hK; go_big_quiet_op; go_big_quiet_on) | ((first | refine Mix.lex_skipT rfl rfl rfl (by with_reducible rfl) ?_ | refine Mix.lex_skipF rfl rfl rfl (by with_reducible rfl) ?_ | refine Mix.lex_skipU rfl rfl rfl (by with_reducible rfl) ?_); simp only [Act.put, List.setIfInBounds_toArray, List.set_cons_succ, List.set_cons_zero]) | (refine Mix.lex_part rfl rfl rfl rfl (fun hq => ?_) (fun hq => ?_) <;> (fail_if_success (guard_hyp hq :ₛ true = true)) <;> (fail_if_success (guard_hyp hq :ₛ false = false)) <;> first | (exfalso; cases hq; done) | (exfalso; simp only [decide_eq_true_eq, decide_eq_false_iff_not, beq_iff_eq, beq_eq_false_iff_ne, ne_eq, Int.not_lt, Int.not_le] at hq; omega) | simp only [Act.put, List.setIfInBounds_toArray, List.set_cons_succ, List.set_cons_zero]))); all_goals (refine Mix.lex_nil ?_)))
  go_loopw [5, 6, 7] (fun l fr i wr => ∃ j f : Nat, j ≤ s.length ∧ f ≤ j ∧ i = .int .i64 j ∧ fr = .int .i64 f ∧ ∃ L A' c', l = .slice A' L.length c' ∧ L.length ≤ j ∧ splB c s = L ++ headApp ((s.take j).drop f) (splB c (s.drop j)) ∧ Fresh strF 9 w wr A' c' L) (fun _ _ i _ => s.length - (intOf i).toNat)
  case atStart => exact ⟨0, 0, Nat.zero_le _, Nat.le_refl _, rfl, rfl, [], none, 0, rfl, Nat.le_refl _, (by simp [headApp_nil (splB_ne c s)]), Fresh.nil _ _ _ _ (Only.refl _ _)⟩
  case round =>
    obtain ⟨j, f, hj, hf, rfl, rfl, L, A1, c1, rfl, hLn, hL, hF⟩ := hrel
    have F1 := Lib.hid hF
    have HL := Lib.hid hL
    obtain ⟨ξ, rfl⟩ : ∃ ξ : X w No, wr = ξ.v := ⟨⟨wr, hF.ext⟩, rfl⟩
    clear hF hL
    by_cases hlt : j < s.length
    · have HD := Lib.hid (drop_cons hlt)
      have HT := Lib.hid (take_drop_snoc hf hlt)
      obtain ⟨x, hx⟩ : ∃ x, x = s[j] := ⟨_, rfl⟩
      rw [← hx] at HD HT
      have hxc : ((s[j].toNat : Int) == (c.toNat : Int)) = (x == c) := by
        rw [← hx, Bool.eq_iff_iff, beq_iff_eq, beq_iff_eq]
        exact ⟨fun h => UInt8.toNat_inj.1 (by omega), fun h => by rw [h]⟩
      obtain ⟨e, he⟩ : ∃ e, (x == c) = e := ⟨_, rfl⟩
      rw [he] at hxc
      clear hx
      cases e with
      | true =>
        have HS : Hid (splB c s = (L ++ [(s.take j).drop f]) ++ headApp ((s.take (j + 1)).drop (j + 1)) (splB c (s.drop (j + 1)))) := by
          have e1 : x = c := by simpa using he
          rw [Hid, HL.out, HD.out, splB_app, if_pos e1]
          have : (s.take (j + 1)).drop (j + 1) = [] := List.drop_eq_nil_of_le (by simp; omega)
          rw [this, headApp_nil (splB_ne _ _)]
          simp [headApp]
        clear he HD HT
        go_wp2_with (first | (at_builtin; go_must (refine wpList_append (v := .slice A1 L.length c1) (n := L.length) (xs := L.flatMap strF.enc) rfl string_ty rfl rfl rfl (own_ext F1.out.own (by (repeat (first | exact Only.refl _ _ | refine Only.drew ?_ | refine Only.drewN ?_ _ | refine Only.alloc ?_ _)))) (rd_one _ _ [S ((s.take j).drop f)]) (senc1 _) (by omega) ?_); intro A2 c2 w5 hown5 hg5 hb5) | ((first | refine Mix.wpList_guarded rfl ?_ | refine Mix.wp_still (by kernel_rfl) (by kernel_rfl) ?_); (repeat' (first | (refine Mix.lex_quiet0 rfl rfl rfl ?_; intro K hK; go_big_quiet_op; go_big_quiet_on) | (refine Mix.lex_quietG rfl rfl rfl (by with_reducible rfl) rfl rfl ?_; intro K hK; go_big_quiet_op; go_big_quiet_on) | ((first | refine Mix.lex_skipT rfl rfl rfl (by with_reducible rfl) ?_ | refine Mix.lex_skipF rfl rfl rfl (by with_reducible rfl) ?_ | refine Mix.lex_skipU rfl rfl rfl (by with_reducible rfl) ?_); simp only [Act.put, List.setIfInBounds_toArray, List.set_cons_succ, List.set_cons_zero]) | (refine Mix.lex_part rfl rfl rfl rfl (fun hq => ?_) (fun hq => ?_) <;> (fail_if_success (guard_hyp hq :ₛ true = true)) <;> (fail_if_success (guard_hyp hq :ₛ false = false)) <;> first | (exfalso; cases hq; done) | (exfalso; simp only [decide_eq_true_eq, decide_eq_false_iff_not, beq_iff_eq, beq_eq_false_iff_ne, ne_eq, Int.not_lt, Int.not_le] at hq; omega) | simp only [Act.put, List.setIfInBounds_toArray, List.set_cons_succ, List.set_cons_zero]))); all_goals (refine Mix.lex_nil ?_)))
        go_roundw
        case rel => exact ⟨j + 1, j + 1, by omega, by omega, by go_num, by go_num, L ++ [(s.take j).drop f], A2, c2, by simp, by simp; omega, HS.out, Fresh.grow (h := F1.out.on (by (repeat (first | exact Only.refl _ _ | refine Only.drew ?_ | refine Only.drewN ?_ _ | refine Only.alloc ?_ _)))) (ys := [(s.take j).drop f]) rfl hown5 hg5 hb5⟩
        case measure => simp [intOf]; omega
      | false =>
        have HS : Hid (splB c s = L ++ headApp ((s.take (j + 1)).drop f) (splB c (s.drop (j + 1)))) := by
          have e1 : ¬ x = c := by simpa using he
          rw [Hid, HL.out, HD.out, splB_app, if_neg e1, headApp_two, HT.out]
        clear he HD HT
        go_wp2_with (first | ((first | refine Mix.wpList_guarded rfl ?_ | refine Mix.wp_still (by kernel_rfl) (by kernel_rfl) ?_); (repeat' (first | (refine Mix.lex_quiet0 rfl rfl rfl ?_; intro K hK; go_big_quiet_op; go_big_quiet_on) | (refine Mix.lex_quietG rfl rfl rfl (by with_reducible rfl) rfl rfl ?_; intro K hK; go_big_quiet_op; go_big_quiet_on) | ((first | refine Mix.lex_skipT rfl rfl rfl (by with_reducible rfl) ?_ | refine Mix.lex_skipF rfl rfl rfl (by with_reducible rfl) ?_ | refine Mix.lex_skipU rfl rfl rfl (by with_reducible rfl) ?_); simp only [Act.put, List.setIfInBounds_toArray, List.set_cons_succ, List.set_cons_zero]) | (refine Mix.lex_part rfl rfl rfl rfl (fun hq => ?_) (fun hq => ?_) <;> (fail_if_success (guard_hyp hq :ₛ true = true)) <;> (fail_if_success (guard_hyp hq :ₛ false = false)) <;> first | (exfalso; cases hq; done) | (exfalso; simp only [decide_eq_true_eq, decide_eq_false_iff_not, beq_iff_eq, beq_eq_false_iff_ne, ne_eq, Int.not_lt, Int.not_le] at hq; omega) | simp only [Act.put, List.setIfInBounds_toArray, List.set_cons_succ, List.set_cons_zero]))); all_goals (refine Mix.lex_nil ?_)))
        go_roundw
        case rel => exact ⟨j + 1, f, by omega, by omega, by go_num, rfl, L, A1, c1, rfl, by omega, HS.out, F1.out⟩
        case measure => simp [intOf]; omega
    · have HS : Hid (splB c s = L ++ [s.drop f]) := by
        have e1 : s.drop j = [] := List.drop_eq_nil_of_le (by omega)
        rw [Hid, HL.out, e1, List.take_of_length_le (by omega)]
        simp [splB, headApp]
      go_wp2_with (first | (at_builtin; go_must (refine wpList_append (v := .slice A1 L.length c1) (n := L.length) (xs := L.flatMap strF.enc) rfl string_ty rfl rfl rfl (own_ext F1.out.own (by (repeat (first | exact Only.refl _ _ | refine Only.drew ?_ | refine Only.drewN ?_ _ | refine Only.alloc ?_ _)))) (rd_one _ _ [S (s.drop f)]) (senc1 _) (by omega) ?_); intro A2 c2 w5 hown5 hg5 hb5) | ((first | refine Mix.wpList_guarded rfl ?_ | refine Mix.wp_still (by kernel_rfl) (by kernel_rfl) ?_); (repeat' (first | (refine Mix.lex_quiet0 rfl rfl rfl ?_; intro K hK; go_big_quiet_op; go_big_quiet_on) | (refine Mix.lex_quietG rfl rfl rfl (by with_reducible rfl) rfl rfl ?_; intro K hK; go_big_quiet_op; go_big_quiet_on) | ((first | refine Mix.lex_skipT rfl rfl rfl (by with_reducible rfl) ?_ | refine Mix.lex_skipF rfl rfl rfl (by with_reducible rfl) ?_ | refine Mix.lex_skipU rfl rfl rfl (by with_reducible rfl) ?_); simp only [Act.put, List.setIfInBounds_toArray, List.set_cons_succ, List.set_cons_zero]) | (refine Mix.lex_part rfl rfl rfl rfl (fun hq => ?_) (fun hq => ?_) <;> (fail_if_success (guard_hyp hq :ₛ true = true)) <;> (fail_if_success (guard_hyp hq :ₛ false = false)) <;> first | (exfalso; cases hq; done) | (exfalso; simp only [decide_eq_true_eq, decide_eq_false_iff_not, beq_iff_eq, beq_eq_false_iff_ne, ne_eq, Int.not_lt, Int.not_le] at hq; omega) | simp only [Act.put, List.setIfInBounds_toArray, List.set_cons_succ, List.set_cons_zero]))); all_goals (refine Mix.lex_nil ?_)))
      go_ret
      rw [HS.out]
      exact ⟨A2, c2, by simp, Fresh.grow (h := F1.out.on (by (repeat (first | exact Only.refl _ _ | refine Only.drew ?_ | refine Only.drewN ?_ _ | refine Only.alloc ?_ _)))) (ys := [s.drop f]) rfl hown5 hg5 hb5⟩
theorem map_S (l : List Str) : l.map (fun s => Value.string ⟨s.toArray⟩) = l.flatMap strF.enc := by
  induction l with
  | nil => rfl
  | cons x l ih => rw [List.map_cons, ih]; rfl
theorem bytes_str (b : ByteArray) : (⟨b.data.toList.toArray⟩ : ByteArray) = b := rfl
theorem splitB_str (c : UInt8) (k : Nat) (s : Str) : (Lib.splitB ⟨#[c]⟩ 0 k ⟨s.toArray⟩).map Value.string = (Lib.splitK [c] 0 k s).flatMap strF.enc := by
  rw [← map_S]
  have := Lib.splitB_data ⟨#[c]⟩ 0 k ⟨s.toArray⟩
  rw [show (⟨#[c]⟩ : ByteArray).data.toList = [c] from rfl, show (⟨s.toArray⟩ : ByteArray).data.toList = s from rfl] at this
  rw [← this, List.map_map]
  rfl
theorem Split_c (s : Str) (hs : s.length ≤ 100000) (c : UInt8) {w : World} (hm : Ml w) :
    Calls Tryz.prog 43 #[S s, S [c]] w fun e w' => ∃ A' c', e = .returned (.slice A' (splB c s).length c') ∧ Fresh strF 9 w w' A' c' (splB c s) := by
  obtain ⟨m, hm⟩ := hm
  refine (Tryz.strings_Split ⟨s.toArray⟩ ⟨#[c]⟩ m w (Nat.lt_of_le_of_lt hs (by omega)) hm (by show 1 ≤ 1; omega)).mono ?_
  rintro e w' ⟨rfl, rfl⟩
  have hk := splitK_byte c _ s (Nat.le_refl _)
  have hcount : Lib.countB ⟨s.toArray⟩ ⟨#[c]⟩ = Lib.count s [c] := rfl
  have hle := splB_le c s
  rw [hcount, splitB_str, hk.1, hk.2]
  refine ⟨_, _, rfl, ?_, (Only.refl No w).alloc _, fun g hg => by simp [Value.ownBlock] at hg; omega⟩
  refine own_of_block (rest := []) (by rw [List.append_nil]; exact Cs.new w _ _) (Nat.zero_le _) (length_flatMap_enc _ _) (by rw [List.append_nil]; exact length_flatMap_enc _ _) (Nat.le_refl _) (by unfold maxLen; omega)
theorem splitK_two (c : UInt8) {s : Str} {w0 w1 w2 : Str} {r : List Str} (h : splB c s = w0 :: w1 :: w2 :: r) : Lib.splitK [c] 0 2 s = [w0, w1, s.drop (w0.length + w1.length + 2)] ∧ w0.length + w1.length + 2 ≤ s.length := by
  rw [splB_cut] at h
  by_cases hb : (cutB c s).2.2 = true
  · rw [if_pos hb] at h
    injection h with h1 h
    rw [splB_cut] at h
    by_cases hb2 : (cutB c (cutB c s).2.1).2.2 = true
    · rw [if_pos hb2] at h
      injection h with h2 h
      have hp := cut_parts c s hb
      have hp2 := cut_parts c _ hb2
      have hi := index_cut c s
      have hi2 := index_cut c (cutB c s).2.1
      rw [if_pos hb] at hi
      rw [if_pos hb2] at hi2
      rw [h1] at hi hp
      rw [h2] at hi2 hp2
      generalize (cutB c s).2.1 = t at *
      generalize (cutB c t).2.1 = u at *
      have hl : ∀ (s a b : Str), s = a ++ c :: b → s.length = a.length + b.length + 1 ∧ s.drop (a.length + 1) = b ∧ s.take a.length = a := by
        rintro s a b rfl
        refine ⟨by simp; omega, ?_, List.take_left⟩
        rw [← List.drop_drop, List.drop_left]; rfl
      obtain ⟨l1, d1, t1⟩ := hl _ _ _ hp
      obtain ⟨l2, d2, t2⟩ := hl _ _ _ hp2
      have hm : ¬ (Lib.index s [c] == -1) = true := fun e => by have := beq_iff_eq.1 e; omega
      have e1 : (Lib.index s [c]).toNat = w0.length := by omega
      have hm2 : ¬ (Lib.index t [c] == -1) = true := fun e => by have := beq_iff_eq.1 e; omega
      have e2 : (Lib.index t [c]).toNat = w1.length := by omega
      refine ⟨?_, by omega⟩
      rw [Lib.splitK, if_neg hm, e1, Nat.add_zero, List.length_singleton, t1, d1, Lib.splitK, if_neg hm2, e2, Nat.add_zero, List.length_singleton, t2, d2, Lib.splitK]
      rw [← d2, ← d1, List.drop_drop]
      congr 3
      congr 1
      omega
    · rw [if_neg hb2] at h
      injection h with h h'
      cases h'
  · rw [if_neg hb] at h
    injection h with h h'
    cases h'
theorem SplitN_c {s : Str} (hs : s.length ≤ 100000) (c : UInt8) {w0 w1 w2 : Str} {r : List Str} (h : splB c s = w0 :: w1 :: w2 :: r) {w : World} (hm : Ml w) :
    Calls Tryz.prog 134 #[S s, S [c], .int .i64 3] w fun e w' => ∃ A' c', e = .returned (.slice A' 3 c') ∧ SlR strF w' A' 3 [w0, w1, s.drop (w0.length + w1.length + 2)] ∧ Ext w w' := by
  obtain ⟨m, hm⟩ := hm
  obtain ⟨h2, h3⟩ := splitK_two c h
  refine (Tryz.strings_SplitN ⟨s.toArray⟩ ⟨#[c]⟩ 3 m w (Nat.lt_of_le_of_lt hs (by omega)) hm (by show 1 ≤ 1; omega) (by omega) (by omega)).mono ?_
  rintro e w' ⟨rfl, rfl⟩
  have hmin : min 3 ((⟨s.toArray⟩ : ByteArray).size + 1) = 3 := by
    have : (⟨s.toArray⟩ : ByteArray).size = s.length := by simp [ByteArray.size]
    rw [this]; omega
  have hmap := splitB_str c 2 s
  rw [h2] at hmap
  have hlen : (Lib.splitB ⟨#[c]⟩ 0 2 ⟨s.toArray⟩).length = 3 := by
    have := congrArg List.length hmap
    simpa [strF] using this
  rw [hmin]
  simp only [Nat.reduceSub]
  rw [hlen]
  refine ⟨_, _, rfl, ⟨rfl, fun _ => ⟨w.heap.size, 0, rfl, by simp, fun k x hx j u hu => ?_⟩⟩, (Only.refl No w).alloc _⟩
  rw [(Cs.new w 9 _).cell]
  unfold Lib.cellsOf
  rw [hlen, hmap]
  match k, hx with
  | 0, hx => injection hx with hx; subst hx; match j, hu with | 0, hu => exact hu
  | 1, hx => injection hx with hx; subst hx; match j, hu with | 0, hu => exact hu
  | 2, hx => injection hx with hx; subst hx; match j, hu with | 0, hu => exact hu
end Go.Proofs.YtnhaekifcieeoaaGreatDoor

/- Facts on this program's own types: how two values of a struct type compare, how one is built. -/
namespace Go.Proofs.YtnhaekifcieeoaaGreatDoor
open Go Go.RowKit
theorem file_stood : Tryz.prog.stoodInHeld 75 = false := by kernel_rfl
@[go_sem] theorem file_guard : Tryz.prog.eqGuardType Tryz.prog.depth 75 = false := by kernel_rfl
theorem file_under : Tryz.prog.underlying 75 = some (.struct (Tryz.prog.fieldsOf 75)) := by kernel_rfl
def fileB (x y x' y' : Str) : Bool := decide (x = x' ∧ y = y')
theorem fileB_true {f g : File} (h : fileB f.1 f.2 g.1 g.2 = true) : f = g := by
  unfold fileB at h; have := of_decide_eq_true h; exact Prod.ext this.1 this.2
theorem fileB_false {f g : File} (h : fileB f.1 f.2 g.1 g.2 = false) : f ≠ g := by
  unfold fileB at h; have := of_decide_eq_false h; intro e; subst e; exact this ⟨rfl, rfl⟩
theorem file_eqIn (a b c d : Str) (w : World) : (Op.equalIn 10000 75 (.agg #[S a, S b]) (.agg #[S c, S d])).run Tryz.prog w = .ok (fileB a b c d) w := by
  have u3 := Tryz.underlying9
  have a3 := Tryz.isAgg9
  have z3 := Tryz.sizeOf9
  unfold fileB
  rw [show (10000 : Nat) = 9999 + 1 from rfl, run_equalIn_agg w 9999 75 _ _ file_under file_stood]
  simp only [Program.fieldsOf, Tryz.underlying75]
  go_simp
  by_cases h1 : a = c <;> by_cases h2 : b = d <;> simp [h1, h2]
@[go_sem high] theorem file_eql (a b c d : Str) (w : World) : (binOp .eql 75 (.agg #[S a, S b]) (.agg #[S c, S d])).run Tryz.prog w = .ok (.bool (fileB a b c d)) w := by
  rw [run_eql_struct, file_eqIn]; rfl
@[go_sem high] theorem file_neq (a b c d : Str) (w : World) : (binOp .neq 75 (.agg #[S a, S b]) (.agg #[S c, S d])).run Tryz.prog w = .ok (.bool (!fileB a b c d)) w := by
  rw [run_neq_struct, file_eqIn]; rfl
@[go_sem] theorem file_build (a b : ByteArray) (w : World) : (Instr.build 75 #[(0, .string a), (1, .string b)]).run Tryz.prog w = .ok (.agg #[.string a, .string b]) w := run_build w 75 _ _ (by kernel_rfl)
end Go.Proofs.YtnhaekifcieeoaaGreatDoor

/- files.Name and the document's NameMay answer the same: a small letter first, then small letters, digits and points, at most eight. -/
namespace Go.Proofs.YtnhaekifcieeoaaGreatDoor
open Go Go.RowKit
/-- May this byte stand in a name (first: at its head)? -/
def nameC (c : UInt8) (first : Bool) : Bool := (decide (97 ≤ c.toNat) && decide (c.toNat ≤ 122)) || (!first && ((decide (48 ≤ c.toNat) && decide (c.toNat ≤ 57)) || c.toNat == 46))
def nameFrom : Str → Nat → Bool
  | [], _ => true
  | c :: r, i => nameC c (i == 0) && nameFrom r (i + 1)
def nameB (s : Str) : Bool := decide (1 ≤ s.length) && decide (s.length ≤ 8) && nameFrom s 0
theorem nameFrom_at (l : Str) (k : Nat) (h : k < l.length) : nameFrom (l.drop k) k = (nameC l[k] (k == 0) && nameFrom (l.drop (k + 1)) (k + 1)) := by
  rw [List.drop_eq_getElem_cons h]; rfl
set_option maxHeartbeats 2000000 in
theorem Name_c (s : Str) (w : World) (hs : s.length ≤ 10000) :
    Calls Tryz.prog 36 #[S s] w fun e w' => e = .returned (.bool (nameB s)) ∧ Ext w w' := by
  go_enter Tryz.func36, Tryz.ntmps36
  go_wp2_with (first | ((first | refine Mix.wpList_guarded rfl ?_ | refine Mix.wp_still (by kernel_rfl) (by kernel_rfl) ?_); (repeat' (first | (refine Mix.lex_quiet0 rfl rfl rfl ?_; intro K hK; go_big_quiet_op; go_big_quiet_on) | (refine Mix.lex_quietG rfl rfl rfl (by with_reducible rfl) rfl rfl ?_; intro K hK; go_big_quiet_op; go_big_quiet_on) | ((first | refine Mix.lex_skipT rfl rfl rfl (by with_reducible rfl) ?_ | refine Mix.lex_skipF rfl rfl rfl (by with_reducible rfl) ?_ | refine Mix.lex_skipU rfl rfl rfl (by with_reducible rfl) ?_); simp only [Act.put, List.setIfInBounds_toArray, List.set_cons_succ, List.set_cons_zero]) | (refine Mix.lex_part rfl rfl rfl rfl (fun hq => ?_) (fun hq => ?_) <;> (fail_if_success (guard_hyp hq :ₛ true = true)) <;> (fail_if_success (guard_hyp hq :ₛ false = false)) <;> first | (exfalso; cases hq; done) | (exfalso; simp only [decide_eq_true_eq, decide_eq_false_iff_not, beq_iff_eq, beq_eq_false_iff_ne, ne_eq, Int.not_lt, Int.not_le] at hq; omega) | simp only [Act.put, List.setIfInBounds_toArray, List.set_cons_succ, List.set_cons_zero]))); all_goals (refine Mix.lex_nil ?_)))
  go_loop [7] (fun i => ∃ k : Nat, k ≤ s.length ∧ i = .int .i64 k ∧ nameFrom s 0 = nameFrom (s.drop k) k) (fun i => s.length - (intOf i).toNat)
  case atStart => exact ⟨0, Nat.zero_le _, rfl, rfl⟩
  case round =>
    obtain ⟨k, hk, rfl, hF⟩ := hrel
    have HF := Lib.hid hF
    clear hF
    by_cases hlt : k < s.length
    · have hN := Lib.hid (nameFrom_at s k hlt)
      have HT : Hid (nameC s[k] (k == 0) = true → nameFrom s 0 = nameFrom (s.drop (k + 1)) (k + 1)) := fun h => by rw [HF.out, hN.out, h, Bool.true_and]
      have HB : Hid (nameC s[k] (k == 0) = false → nameB s = false) := fun h => by unfold nameB; rw [HF.out, hN.out, h, Bool.false_and, Bool.and_false]
      clear HF hN
      go_upto_region 5 with fail
      go_cut [34] from 13 to 34 (fun c wx => c = .bool (!nameC s[k] (k == 0)) ∧ wx = w)
      case first =>
        refine Mix.wp_plain [] (fun w' => w' = _) rfl ?_
        (repeat' (first | (refine Mix.lex_quiet0 rfl rfl rfl ?_; intro K hK; go_big_quiet_op; go_big_quiet_on) | (refine Mix.lex_quietG rfl rfl rfl (by with_reducible rfl) rfl rfl ?_; intro K hK; go_big_quiet_op; go_big_quiet_on) | ((first | refine Mix.lex_skipT rfl rfl rfl (by with_reducible rfl) ?_ | refine Mix.lex_skipF rfl rfl rfl (by with_reducible rfl) ?_ | refine Mix.lex_skipU rfl rfl rfl (by with_reducible rfl) ?_); simp only [Act.put, List.setIfInBounds_toArray, List.set_cons_succ, List.set_cons_zero]) | (refine Mix.lex_part rfl rfl rfl rfl (fun hq => ?_) (fun hq => ?_) <;> (fail_if_success (guard_hyp hq :ₛ true = true)) <;> (fail_if_success (guard_hyp hq :ₛ false = false)) <;> first | (exfalso; cases hq; done) | (exfalso; simp only [decide_eq_true_eq, decide_eq_false_iff_not, beq_iff_eq, beq_eq_false_iff_ne, ne_eq, Int.not_lt, Int.not_le] at hq; omega) | simp only [Act.put, List.setIfInBounds_toArray, List.set_cons_succ, List.set_cons_zero])))
        all_goals refine Mix.lex_nil ?_
        all_goals (go_wp2_with fail; go_meet; refine ⟨congrArg Value.bool ?_, rfl⟩)
        all_goals (clear HT HB; simp only [decide_eq_true_eq, decide_eq_false_iff_not, beq_iff_eq, beq_eq_false_iff_ne, ne_eq] at *; unfold nameC; rw [Bool.eq_iff_iff]; simp; omega)
      case rest =>
        obtain ⟨rfl, rfl⟩ := hcut
        cases hc : nameC s[k] (k == 0)
        · go_wp2
          go_ret
          exact ⟨ret_bool (HB.out hc).symm, Only.refl _ _⟩
        · go_wp2
          go_round
          case rel => exact ⟨k + 1, by omega, by go_num, HT.out hc⟩
          case measure => simp [intOf]; omega
    · have hlen : k = s.length := by omega
      have HB : Hid (nameFrom s 0 = true) := by rw [Hid, HF.out, hlen, List.drop_length]; rfl
      clear HF
      clear hlen
      go_wp2_with (refine Mix.wpList_guarded rfl ?_; (repeat' (first | (refine Mix.lex_quiet0 rfl rfl rfl ?_; intro K hK; go_big_quiet_op; go_big_quiet_on) | (refine Mix.lex_quietG rfl rfl rfl (by with_reducible rfl) rfl rfl ?_; intro K hK; go_big_quiet_op; go_big_quiet_on) | ((first | refine Mix.lex_skipT rfl rfl rfl (by with_reducible rfl) ?_ | refine Mix.lex_skipF rfl rfl rfl (by with_reducible rfl) ?_ | refine Mix.lex_skipU rfl rfl rfl (by with_reducible rfl) ?_); simp only [Act.put, List.setIfInBounds_toArray, List.set_cons_succ, List.set_cons_zero]) | (refine Mix.lex_part rfl rfl rfl rfl (fun hq => ?_) (fun hq => ?_) <;> (fail_if_success (guard_hyp hq :ₛ true = true)) <;> (fail_if_success (guard_hyp hq :ₛ false = false)) <;> first | (exfalso; cases hq; done) | (exfalso; simp only [decide_eq_true_eq, decide_eq_false_iff_not, beq_iff_eq, beq_eq_false_iff_ne, ne_eq, Int.not_lt, Int.not_le] at hq; omega) | simp only [Act.put, List.setIfInBounds_toArray, List.set_cons_succ, List.set_cons_zero]))); all_goals (refine Mix.lex_nil ?_))
      all_goals
        go_ret
        refine ⟨ret_bool ?_, Only.refl _ _⟩
        unfold nameB
        rw [HB.out, Bool.and_true]
        clear HB hlt hk
        revert hq
        cases s with
        | nil => simp
        | cons x l => intro hq; first | (simp at hq; done) | (rw [Bool.eq_iff_iff]; simp; omega)
set_option maxHeartbeats 2000000 in
theorem NameMay_c (s : Str) (w : World) (hs : s.length ≤ 10000) :
    Calls Tryz.prog 38 #[S s] w fun e w' => e = .returned (.bool (nameB s)) ∧ Ext w w' := by
  by_cases h1 : s.length < 1
  · have HB : Hid (nameB s = false) := by
      have : s.length = 0 := by omega
      simp [Hid, nameB, this]
    go_enter Tryz.func38, Tryz.ntmps38
    go_wp2_with (first | ((first | refine Mix.wpList_guarded rfl ?_ | refine Mix.wp_still (by kernel_rfl) (by kernel_rfl) ?_); (repeat' (first | (refine Mix.lex_quiet0 rfl rfl rfl ?_; intro K hK; go_big_quiet_op; go_big_quiet_on) | (refine Mix.lex_quietG rfl rfl rfl (by with_reducible rfl) rfl rfl ?_; intro K hK; go_big_quiet_op; go_big_quiet_on) | ((first | refine Mix.lex_skipT rfl rfl rfl (by with_reducible rfl) ?_ | refine Mix.lex_skipF rfl rfl rfl (by with_reducible rfl) ?_ | refine Mix.lex_skipU rfl rfl rfl (by with_reducible rfl) ?_); simp only [Act.put, List.setIfInBounds_toArray, List.set_cons_succ, List.set_cons_zero]) | (refine Mix.lex_part rfl rfl rfl rfl (fun hq => ?_) (fun hq => ?_) <;> (fail_if_success (guard_hyp hq :ₛ true = true)) <;> (fail_if_success (guard_hyp hq :ₛ false = false)) <;> first | (exfalso; cases hq; done) | (exfalso; simp only [decide_eq_true_eq, decide_eq_false_iff_not, beq_iff_eq, beq_eq_false_iff_ne, ne_eq, Int.not_lt, Int.not_le] at hq; omega) | simp only [Act.put, List.setIfInBounds_toArray, List.set_cons_succ, List.set_cons_zero]))); all_goals (refine Mix.lex_nil ?_)))
    all_goals (go_ret; exact ⟨ret_bool HB.out.symm, Only.refl _ _⟩)
  by_cases h2 : 8 < s.length
  · have HB : Hid (nameB s = false) := by
      simp [Hid, nameB]; omega
    go_enter Tryz.func38, Tryz.ntmps38
    go_wp2_with (first | ((first | refine Mix.wpList_guarded rfl ?_ | refine Mix.wp_still (by kernel_rfl) (by kernel_rfl) ?_); (repeat' (first | (refine Mix.lex_quiet0 rfl rfl rfl ?_; intro K hK; go_big_quiet_op; go_big_quiet_on) | (refine Mix.lex_quietG rfl rfl rfl (by with_reducible rfl) rfl rfl ?_; intro K hK; go_big_quiet_op; go_big_quiet_on) | ((first | refine Mix.lex_skipT rfl rfl rfl (by with_reducible rfl) ?_ | refine Mix.lex_skipF rfl rfl rfl (by with_reducible rfl) ?_ | refine Mix.lex_skipU rfl rfl rfl (by with_reducible rfl) ?_); simp only [Act.put, List.setIfInBounds_toArray, List.set_cons_succ, List.set_cons_zero]) | (refine Mix.lex_part rfl rfl rfl rfl (fun hq => ?_) (fun hq => ?_) <;> (fail_if_success (guard_hyp hq :ₛ true = true)) <;> (fail_if_success (guard_hyp hq :ₛ false = false)) <;> first | (exfalso; cases hq; done) | (exfalso; simp only [decide_eq_true_eq, decide_eq_false_iff_not, beq_iff_eq, beq_eq_false_iff_ne, ne_eq, Int.not_lt, Int.not_le] at hq; omega) | simp only [Act.put, List.setIfInBounds_toArray, List.set_cons_succ, List.set_cons_zero]))); all_goals (refine Mix.lex_nil ?_)))
    all_goals (go_ret; exact ⟨ret_bool HB.out.symm, Only.refl _ _⟩)
  have HB : Hid (nameB s = nameFrom s 0) := by
    have a1 : decide (1 ≤ s.length) = true := by simp; omega
    have a2 : decide (s.length ≤ 8) = true := by simp; omega
    rw [Hid, nameB, a1, a2]; rfl
  go_enter Tryz.func38, Tryz.ntmps38
  go_wp2_with (first | ((first | refine Mix.wpList_guarded rfl ?_ | refine Mix.wp_still (by kernel_rfl) (by kernel_rfl) ?_); (repeat' (first | (refine Mix.lex_quiet0 rfl rfl rfl ?_; intro K hK; go_big_quiet_op; go_big_quiet_on) | (refine Mix.lex_quietG rfl rfl rfl (by with_reducible rfl) rfl rfl ?_; intro K hK; go_big_quiet_op; go_big_quiet_on) | ((first | refine Mix.lex_skipT rfl rfl rfl (by with_reducible rfl) ?_ | refine Mix.lex_skipF rfl rfl rfl (by with_reducible rfl) ?_ | refine Mix.lex_skipU rfl rfl rfl (by with_reducible rfl) ?_); simp only [Act.put, List.setIfInBounds_toArray, List.set_cons_succ, List.set_cons_zero]) | (refine Mix.lex_part rfl rfl rfl rfl (fun hq => ?_) (fun hq => ?_) <;> (fail_if_success (guard_hyp hq :ₛ true = true)) <;> (fail_if_success (guard_hyp hq :ₛ false = false)) <;> first | (exfalso; cases hq; done) | (exfalso; simp only [decide_eq_true_eq, decide_eq_false_iff_not, beq_iff_eq, beq_eq_false_iff_ne, ne_eq, Int.not_lt, Int.not_le] at hq; omega) | simp only [Act.put, List.setIfInBounds_toArray, List.set_cons_succ, List.set_cons_zero]))); all_goals (refine Mix.lex_nil ?_)))
  go_loop [3] (fun i => ∃ k : Nat, k ≤ s.length ∧ i = .int .i64 k ∧ nameFrom s 0 = nameFrom (s.drop k) k) (fun i => s.length - (intOf i).toNat)
  case atStart => exact ⟨0, Nat.zero_le _, rfl, rfl⟩
  case round =>
    obtain ⟨k, hk, rfl, hF⟩ := hrel
    by_cases hlt : k < s.length
    · have hN := nameFrom_at s k hlt
      have HT : Hid (nameC s[k] (k == 0) = true → nameFrom s 0 = nameFrom (s.drop (k + 1)) (k + 1)) := fun h => by rw [hF, hN, h, Bool.true_and]
      have HF : Hid (nameC s[k] (k == 0) = false → nameB s = false) := fun h => by rw [HB.out, hF, hN, h, Bool.false_and]
      clear hF hN HB
      generalize hc : nameC s[k] (k == 0) = c at HT HF
      have hC := Lib.hid hc
      clear hc
      go_wp2_with (first | ((first | refine Mix.wpList_guarded rfl ?_ | refine Mix.wp_still (by kernel_rfl) (by kernel_rfl) ?_); (repeat' (first | (refine Mix.lex_quiet0 rfl rfl rfl ?_; intro K hK; go_big_quiet_op; go_big_quiet_on) | (refine Mix.lex_quietG rfl rfl rfl (by with_reducible rfl) rfl rfl ?_; intro K hK; go_big_quiet_op; go_big_quiet_on) | ((first | refine Mix.lex_skipT rfl rfl rfl (by with_reducible rfl) ?_ | refine Mix.lex_skipF rfl rfl rfl (by with_reducible rfl) ?_ | refine Mix.lex_skipU rfl rfl rfl (by with_reducible rfl) ?_); simp only [Act.put, List.setIfInBounds_toArray, List.set_cons_succ, List.set_cons_zero]) | (refine Mix.lex_part rfl rfl rfl rfl (fun hq => ?_) (fun hq => ?_) <;> (fail_if_success (guard_hyp hq :ₛ true = true)) <;> (fail_if_success (guard_hyp hq :ₛ false = false)) <;> first | (exfalso; cases hq; done) | (exfalso; simp only [decide_eq_true_eq, decide_eq_false_iff_not, beq_iff_eq, beq_eq_false_iff_ne, ne_eq, Int.not_lt, Int.not_le] at hq; omega) | simp only [Act.put, List.setIfInBounds_toArray, List.set_cons_succ, List.set_cons_zero]))); all_goals (refine Mix.lex_nil ?_)))
      all_goals first
        | (go_round
           case rel => exact ⟨k + 1, by omega, by go_num, HT.out (by rw [← hC.out]; clear HT HF hC; simp only [decide_eq_true_eq, decide_eq_false_iff_not, beq_iff_eq, beq_eq_false_iff_ne, ne_eq, Bool.or_eq_true, Bool.or_eq_false_iff, Bool.not_eq_eq_eq_not, Bool.not_true, Bool.not_false] at *; unfold nameC; simp; omega)⟩
           case measure => simp [intOf]; omega)
        | (go_ret
           refine ⟨ret_bool (HF.out ?_).symm, Only.refl _ _⟩
           rw [← hC.out]; clear HT HF hC; simp only [decide_eq_true_eq, decide_eq_false_iff_not, beq_iff_eq, beq_eq_false_iff_ne, ne_eq, Bool.or_eq_true, Bool.or_eq_false_iff, Bool.not_eq_eq_eq_not, Bool.not_true, Bool.not_false] at *; unfold nameC; simp; omega)
    · have HE : Hid (nameB s = true) := by
        rw [Hid, HB.out, hF, show k = s.length by omega, List.drop_length]; rfl
      clear hF HB
      go_wp2_with (first | ((first | refine Mix.wpList_guarded rfl ?_ | refine Mix.wp_still (by kernel_rfl) (by kernel_rfl) ?_); (repeat' (first | (refine Mix.lex_quiet0 rfl rfl rfl ?_; intro K hK; go_big_quiet_op; go_big_quiet_on) | (refine Mix.lex_quietG rfl rfl rfl (by with_reducible rfl) rfl rfl ?_; intro K hK; go_big_quiet_op; go_big_quiet_on) | ((first | refine Mix.lex_skipT rfl rfl rfl (by with_reducible rfl) ?_ | refine Mix.lex_skipF rfl rfl rfl (by with_reducible rfl) ?_ | refine Mix.lex_skipU rfl rfl rfl (by with_reducible rfl) ?_); simp only [Act.put, List.setIfInBounds_toArray, List.set_cons_succ, List.set_cons_zero]) | (refine Mix.lex_part rfl rfl rfl rfl (fun hq => ?_) (fun hq => ?_) <;> (fail_if_success (guard_hyp hq :ₛ true = true)) <;> (fail_if_success (guard_hyp hq :ₛ false = false)) <;> first | (exfalso; cases hq; done) | (exfalso; simp only [decide_eq_true_eq, decide_eq_false_iff_not, beq_iff_eq, beq_eq_false_iff_ne, ne_eq, Int.not_lt, Int.not_le] at hq; omega) | simp only [Act.put, List.setIfInBounds_toArray, List.set_cons_succ, List.set_cons_zero]))); all_goals (refine Mix.lex_nil ?_)))
      go_ret
      exact ⟨ret_bool HE.out.symm, Only.refl _ _⟩
end Go.Proofs.YtnhaekifcieeoaaGreatDoor
